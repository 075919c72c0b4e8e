/- Parts of the proof: U5, U4, U6, U9, U7, UA, UB, UC, UD. No condition. -/
import Derived.Test.YtheklpaoigbdnaaGreatDoorProg
import Derived.Test.YtheklpaoigbdnaaGreatDoorXF11
import Derived.KernelRfl
import Derived.Test.YtheklpaoigbdnaaGreatDoorXF15
namespace Go.Eng
open Go.Proofs
set_option linter.unusedVariables false
set_option linter.unusedSimpArgs false
set_option maxRecDepth 100000
set_option maxHeartbeats 1000000
theorem KY_ {α:Type} (p:α->Bool) (d:α):∀ (l:List α) (i:Int),(ZW_ p l i=-1/\∀ x ∈ l,p x=false)\/∃ k,k < l.length/\ZW_ p l i=i+k/\p (l.getD k d)=true/\∀ x ∈ l.take k,p x=false
 | [],i=>.inl ⟨rfl,fun x h=>absurd h List.not_mem_nil⟩
 | o :: r,i=>by
   by_cases h:p o=true
   ·refine .inr ⟨0,by simp,?_,h,fun x hx=>absurd hx List.not_mem_nil⟩
    show (if p o=true then i else ZW_ p r (i+1))=_
    rw [if_pos h];simp
   ·have e:ZW_ p (o :: r) i=ZW_ p r (i+1):=if_neg h
    have h0:p o=false:=by simpa using h
    rw [e]
    rcases KY_ p d r (i+1) with ⟨h1,h2⟩ | ⟨k,h1,h2,h3,h4⟩
    ·refine .inl ⟨h1,fun x hx=>?_⟩
     rcases List.mem_cons.1 hx with rfl | hx
     ·exact h0
     ·exact h2 x hx
    ·refine .inr ⟨k+1,by simpa using h1,by rw [h2];omega,h3,fun x hx=>?_⟩
     rw [List.take_succ_cons] at hx
     rcases List.mem_cons.1 hx with rfl | hx
     ·exact h0
     ·exact h4 x hx
def gF_ (a:AC):Bool:=!decide (a.1=0)
def dlA (l:List AC):List AC:=l.filter gF_
theorem gH_ {l:List AC} (h:∀ x ∈ l,decide (x.1=0)=false):dlA l=l:=List.filter_eq_self.2 fun x hx=>by unfold gF_;rw [h x hx];rfl
theorem xZ_ {l:List AC} {i:Nat} {d:AC} (h:i < l.length):dlA (l.take (i+1))=dlA (l.take i)++(if (l.getD i d).1=0 then [] else [l.getD i d]):=by
 unfold dlA
 rw [<- kc_ (d:=d) h,List.filter_append]
 congr 1
 by_cases e:(l.getD i d).1=0
 ·rw [if_pos e,List.filter_cons_of_neg (by unfold gF_;rw [decide_eq_true e];decide)];rfl
 ·rw [if_neg e,List.filter_cons_of_pos (by unfold gF_;rw [decide_eq_false e];rfl)];rfl
theorem gG_ (l:List AC):(dlA l).length<=l.length:=List.length_filter_le _ _
structure DlJ (l:List AC) (p:Nat × List AC):Prop where
 a:p.1<=l.length
 b:p.2.length=l.length
 c:p.2.drop p.1=l.drop p.1
 d:p.2.take (dlA (l.take p.1)).length=dlA (l.take p.1)
 e:(dlA (l.take p.1)).length < p.1
theorem BE_ {l:List AC} {k:Nat} {d:AC} (hk:k < l.length) (h:(l.getD k d).1=0) (ha:∀ x ∈ l.take k,decide (x.1=0)=false):DlJ l (k+1,l)/\(dlA (l.take (k+1))).length=k:=by
 have e:dlA (l.take (k+1))=l.take k:=by rw [xZ_ (d:=d) hk,if_pos h,List.append_nil,gH_ ha]
 have e2:(l.take k).length=k:=by rw [List.length_take];omega
 exact ⟨⟨hk,rfl,rfl,by show l.take (dlA (l.take (k+1))).length=_;rw [e,e2],by show (dlA (l.take (k+1))).length < _;rw [e,e2];exact Nat.lt_succ_self k⟩,by rw [e,e2]⟩
theorem bO_ {l:List AC} {p:Nat × List AC} {d:AC} (h:DlJ l p) (hl:p.1 < l.length):p.2.getD p.1 d=l.getD p.1 d:=by
 have e:∀ x:List AC,x.getD p.1 d=(x.drop p.1).getD 0 d:=fun x=>by rw [List.getD_eq_getElem?_getD,List.getD_eq_getElem?_getD,List.getElem?_drop];rfl
 rw [e,h.c,<- e]
theorem HQ_ {l:List AC} {p:Nat × List AC} {d:AC} (h:DlJ l p) (hl:p.1 < l.length) (h0:(l.getD p.1 d).1=0):DlJ l (p.1+1,p.2)/\dlA (l.take (p.1+1))=dlA (l.take p.1):=by
 have e:dlA (l.take (p.1+1))=dlA (l.take p.1):=by rw [xZ_ (d:=d) hl,if_pos h0,List.append_nil]
 refine ⟨⟨hl,h.b,?_,?_,?_⟩,e⟩
 ·show p.2.drop (p.1+1)=l.drop (p.1+1)
  rw [<- List.drop_drop,h.c,List.drop_drop]
 ·show p.2.take (dlA (l.take (p.1+1))).length=_;rw [e];exact h.d
 ·show (dlA (l.take (p.1+1))).length < p.1+1;rw [e];have:=h.e;omega
theorem HR_ {l:List AC} {p:Nat × List AC} {d:AC} (h:DlJ l p) (hl:p.1 < l.length) (h0:¬ (l.getD p.1 d).1=0):DlJ l (p.1+1,p.2.set (dlA (l.take p.1)).length (l.getD p.1 d))/\(dlA (l.take (p.1+1))).length=(dlA (l.take p.1)).length+1:=by
 have e:dlA (l.take (p.1+1))=dlA (l.take p.1)++[l.getD p.1 d]:=by rw [xZ_ (d:=d) hl,if_neg h0]
 have e2:(dlA (l.take (p.1+1))).length=(dlA (l.take p.1)).length+1:=by rw [e,List.length_append];rfl
 have h1:=h.e
 have h2:=h.b
 refine ⟨⟨hl,?_,?_,?_,?_⟩,e2⟩
 ·show (p.2.set _ _).length=_;rw [List.length_set];exact h.b
 ·show (p.2.set _ _).drop (p.1+1)=l.drop (p.1+1)
  rw [List.drop_set_of_lt (by omega),<- List.drop_drop,h.c,List.drop_drop]
 ·show (p.2.set _ _).take (dlA (l.take (p.1+1))).length=_
  rw [e2,e,List.take_set,List.take_succ_eq_append_getElem (by omega),List.set_append_right _ _ (by rw [List.length_take];omega),h.d]
  congr 1
  rw [Nat.sub_self];rfl
 ·show (dlA (l.take (p.1+1))).length < p.1+1;rw [e2];omega
theorem bP_ {l:List AC} {p:Nat × List AC} {z:AC} (h:DlJ l p) (hl:l.length<=p.1):
 p.2.take ((((dlA (l.take p.1)).length:Nat):Int)).toNat++List.replicate ((p.2.length:Int) - ((dlA (l.take p.1)).length:Nat)).toNat z++p.2.drop (((((dlA (l.take p.1)).length:Nat):Int)).toNat+((p.2.length:Int) - ((dlA (l.take p.1)).length:Nat)).toNat)=dlA l++List.replicate (l.length - (dlA l).length) z/\
 ((dlA l++List.replicate (l.length - (dlA l).length) z).drop 0).take ((((dlA (l.take p.1)).length:Nat):Int) - 0).toNat=dlA l/\l.take p.1=l:=by
 have e:=List.take_of_length_le (l:=l) hl
 have h1:=h.d
 have h2:=h.b
 have h3:=gG_ l
 rw [e] at h1 ⊢
 refine ⟨?_,?_,rfl⟩
 ·rw [Int.toNat_natCast,h1,show ((p.2.length:Int) - ((dlA l).length:Nat)).toNat=l.length - (dlA l).length by omega,List.drop_of_length_le (by omega),List.append_nil]
 ·rw [List.drop_zero,List.take_append_of_le_length (by omega),List.take_of_length_le (by omega)]
def ZV_:IR:=
(sq (kr [0,1] [oD 4 (.mov (.c (.imm Y2 [])))])
(sq (.reg [oM 8 0,
oM 9 1,
oC 10 18 [8,9],
oM 5 10])
(sq (sq (.reg [oM 11 5,
oB 12 .eql 11 (cI (-1))])
(.cond 12
(sq (kr [0] [oM 13 0,
oM 4 13])
.ret)
.skip))
(sq (sq (kr [0,1,5] [oM 14 5,
oB 15 .add 14 (cI 1),
oM 6 15])
(.block 0
(.loop
(sq (sq (kr [0,1,5,6] [oM 16 6,
oM 17 0,
oE 18 17,
oB 19 .lss 16 18])
(.cond 19
.skip
(.exit 0)))
(sq (.block 1
(sq (kr [0,1,5,6] [oM 22 0,
oM 23 6,
oI 24 10 22 23,
oK 25 10 24,
oD 7 (.box [.int .i64 0,.int .u64 0,.int .u64 0,.int .i64 0,.int .i64 0,.kb false,.int .u64 0,.imm (.int .u8) [],.imm (.int .u8) [],.imm (.int .u8) []]),
oS 10 7 25])
(sq (.reg [oM 26 1,
oK 27 10 7,
oD 28 (.call false 26 [27]),
oD 29 (.un .not 28)])
(.cond 29
(sq (kr [0,1,5,6,7] [oM 30 0,
oM 31 5,
oK 32 10 7,
oI 33 10 30 31,
oS 10 33 32])
(.reg [oM 34 5,
oB 35 .add 34 (cI 1),
oM 5 35]))
.skip))))
(kr [0,1,5,6] [oM 20 6,
oB 21 .add 20 (cI 1),
oM 6 21]))))))
(sq (kr [0,5] [oM 36 0,
oM 37 5,
oD 38 (.slice 10 36 (some 37) none none),
oN (.clr Y2 ((0:Int),((0:Int),((0:Int),(((0:Int),((0:Int),(false,((0:Int),(([]:List (Ty.den (.int .u8))),(([]:List (Ty.den (.int .u8))),())))))),(([]:List (Ty.den (.int .u8))),()))))) 38)])
(sq (.reg [oM 39 0,
oM 40 5,
oD 41 (.slice 10 39 none (some 40) none),
oM 4 41])
.ret))))))
def ZT_:List RD:=[.tmp 4 true (some Y2)]
theorem ZU_:zl_ Tryz.prog Tryz.f30 ZV_ ZT_=true:=by kernel_rfl
def zH_:List AV->List Obj->Option (Prop × AV × List Obj)
 | [.own 0,.fn 31 [] []],[.row false ty0 l]=>Zj_ ty0 Y2 l fun l=>some (((l:List AC).length<=1000000,.imm Y2 (dlA l),[.row true Y2 (dlA l++List.replicate ((l:List AC).length - (dlA l).length) ((Ty.dflt Y2):AC))]))
 | _,_=>none
theorem ZL_:zf_ Tryz.prog 30 (RwF zH_).sum:=by
 refine wP_ Tryz.func30 ZU_ (zc_ (s:=RoF Zr_) qi_ (zc_ (s:=RoF zq_) zE_ (ze_ _))) fun args objs p v o e=>?_
 unfold zH_ at e
 split at e
 ·rename_i ty0 l
  obtain rfl:=zz_ e
  replace e:=zA_ e
  cases e
  refine ⟨rfl,fun hw ho hp=>?_⟩
  change List AC at l
  clear hw ho
  have hdl:=gG_ l
  rcases KY_ (fun a:AC=>decide (a.1=0)) (Ty.dflt Y2) l 0 with ⟨y1,y2⟩ | ⟨k,y1,y2,y3,y4⟩
  ·have e1:=gH_ y2
   repeat'(intro t ht;first|(cases t<;>first|(cases ht;done)|(try simp only[zh_]at ht;try(exfalso;first|contradiction|omega)))|((first|refine za_ ht ?_|refine ht ?_ ?_|refine ht.1 ?_ ?_|refine ht ?_)<;>clear ht))
   all_goals first
    | exact True.intro
    | exact hp
    | omega
    | (rw [e1,Nat.sub_self];exact ⟨rfl,by rw [List.replicate_zero,List.append_nil]⟩)
  ·rw [Int.zero_add] at y2
   obtain ⟨j1,j2⟩:=BE_ y1 (of_decide_eq_true y3) y4
   repeat'(intro t ht;first|(cases t<;>first|(cases ht;done)|(try simp only[zh_]at ht;try(exfalso;first|contradiction|omega)))|((first|refine za_ ht ?_|refine ht ?_ ?_|refine ht.1 ?_ ?_|refine ht ?_)<;>clear ht))
   all_goals first
    | exact True.intro
    | exact hp
    | omega
    | (simp only [zk_];omega)
    | (intro r h1 h2;clear h1;refine h2 ⟨[0,1,5,6],(Nat × List AC),(DlJ l),fun p=>[.own 0,.fn 31 [] [],.int .i64 ((dlA (l.take p.1)).length:Nat),.int .i64 (p.1:Nat)],fun p=>[.row false Y2 p.2],fun p=>l.length - p.1,⟨(k+1,l),j1,(by show [AV.own 0,AV.fn 31 [] [],AV.int .i64 (ZW_ (fun a:AC=>decide (a.1=0)) l 0),AV.int .i64 (ZW_ (fun a:AC=>decide (a.1=0)) l 0+1)]=[AV.own 0,AV.fn 31 [] [],AV.int .i64 ((dlA (l.take (k+1))).length:Nat),AV.int .i64 ((k+1:Nat):Int)];rw [y2,j2];rfl),rfl⟩,?_⟩;clear h2)
   rintro ⟨j,s⟩ hj
   have b1:=hj.b
   have b2:=hj.e
   have b3:=hj.a
   dsimp only at b1 b2 b3
   have hg:=fun h=>bO_ (d:=(Ty.dflt Y2)) hj h
   have hs1:=fun h h0=>HQ_ (d:=(Ty.dflt Y2)) hj h h0
   have hk1:=fun h h0=>HR_ (d:=(Ty.dflt Y2)) hj h h0
   have he1:=fun h z=>bP_ (z:=z) hj h
   dsimp only at hg hs1 hk1 he1
   repeat'(intro t ht;first|(cases t<;>first|(cases ht;done)|(try simp only[zh_]at ht;try(exfalso;first|contradiction|omega)))|((first|refine za_ ht ?_|refine ht ?_ ?_|refine ht.1 ?_ ?_|refine ht ?_)<;>clear ht))
   all_goals (try dsimp only)
   all_goals first
    | exact True.intro
    | omega
    | (simp only [zk_];omega)
    | (constructor<;>omega)
    | (simp only [List.length_append,List.length_take,List.length_drop,List.length_replicate];omega)
    | (obtain ⟨f1,f2,f3⟩:=he1 (by omega) (Ty.dflt Y2)
       exact ⟨congrArg (AV.imm Y2) ((congrArg (fun z=>(z.drop 0).take ((((dlA (l.take j)).length:Nat):Int) - 0).toNat) f1).trans f2),congrArg (fun z=>[Obj.row true Y2 z]) f1⟩)
    | (have q1:j < l.length:=by omega
       have q2:=hg q1
       first
        | (have q3:=hs1 q1 (by rw [<- q2];exact ht)
           exact ⟨(j+1,s),q3.1,by dsimp only;omega,by dsimp only;rw [q3.2];rfl,rfl⟩)
        | (have q3:=hk1 q1 (by rw [<- q2];exact ht)
           refine ⟨(j+1,_),q3.1,by dsimp only;omega,by dsimp only;rw [q3.2];rfl,?_⟩
           dsimp only;rw [<- q2];rfl))
 ·cases e
theorem hr_ {α:Type} {l q:List α} {n a b c d e f:Nat} (hq:q.length=1) (hn:n < l.length) (ha:a=n+1) (hb:b=n) (hc:l.length - n<=c) (hd:1<=d) (he:e=n) (hf:f=n+1):
 (l.take a++(l.drop b).take c).take e++q.take d++(l.take a++(l.drop b).take c).drop f=l.take n++q++l.drop n:=by
 rw [ha,hb,he,hf]
 have h1:(l.drop n).take c=l.drop n:=List.take_of_length_le (by rw [List.length_drop];exact hc)
 have h2:q.take d=q:=List.take_of_length_le (by omega)
 have h3:(l.take (n+1)).length=n+1:=by rw [List.length_take];omega
 rw [h1,h2,List.take_append_of_le_length (by omega),List.take_take,Nat.min_eq_left (by omega),List.drop_append_of_le_length (by omega),List.drop_of_length_le (by omega),List.nil_append]
theorem hs_ {α:Type} {l q:List α} {z:α} {n a b c d e f g g' r k:Nat} (hq:q.length=1) (hn:n < l.length) (ha:a=n) (hb:b=n) (hc:1<=c) (hd:d=n+1) (he:e=n+1) (hf:f=n) (hg':l.length - n<=g') (hg:l.length - n<=g) (hr:l.length+1 - n=r) (hk:l.length+1<=k):
 ((l.take a++List.replicate r z).take b++q.take c++(l.take a++List.replicate r z).drop d).take e++((l.drop f).take g').take g++((l.take a++List.replicate r z).take b++q.take c++(l.take a++List.replicate r z).drop d).drop k=l.take n++q++l.drop n:=by
 rw [ha,hb,hd,he,hf]
 have h2:q.take c=q:=List.take_of_length_le (by omega)
 have h3:(l.take n).length=n:=by rw [List.length_take];omega
 have h4:((l.drop n).take g').take g=l.drop n:=by
  rw [List.take_of_length_le (l:=l.drop n) (by rw [List.length_drop];exact hg'),List.take_of_length_le (by rw [List.length_drop];exact hg)]
 have h5:(l.take n++q).length=n+1:=by rw [List.length_append];omega
 have h6:(l.take n++List.replicate r z).take n=l.take n:=by
  rw [List.take_append_of_le_length (by omega),List.take_take,Nat.min_self]
 rw [h2,h4,h6,List.take_append_of_le_length (by omega),List.take_of_length_le (l:=l.take n++q) (by omega),List.drop_of_length_le (i:=k),List.append_nil]
 rw [List.length_append,h5,List.length_drop,List.length_append,h3,List.length_replicate];omega
def qn_:IR:=
(sq (kr [0,1,2] [oD 6 (.mov (.c (.imm Y2 [])))])
(sq (.reg [oM 10 0,
oM 11 1,
oD 12 (.slice 10 10 (some 11) none none)])
(sq (.reg [oM 13 2,
oE 14 13,
oM 7 14])
(sq (sq (kr [0,1,2,7] [oM 15 7,
oB 16 .eql 15 (cI 0)])
(.cond 16
(sq (.reg [oM 17 0,
oM 6 17])
.ret)
.skip))
(sq (.reg [oM 18 0,
oE 19 18,
oM 8 19])
(sq (sq (kr [0,1,2,7,8] [oM 20 1,
oM 21 8,
oB 22 .eql 20 21])
(.cond 22
(sq (.reg [oM 23 0,
oM 24 2,
oD 25 (.append Y2 128 23 24),
oM 6 25])
.ret)
.skip))
(sq (sq (kr [0,1,2,7,8] [oM 26 8,
oM 27 7,
oB 28 .add 26 27,
oM 29 0,
oD 30 (.capp 29),
oB 31 .gtr 28 30])
(.cond 31
(sq (kr [0,1,2,7,8] [oM 32 0,
oM 33 1,
oD 34 (.sliceP 10 32 none (some 33)),
oM 35 8,
oM 36 7,
oB 37 .add 35 36,
oM 38 1,
oB 39 .sub 37 38,
oD 40 (.appendzP Y2 128 ((0:Int),((0:Int),((0:Int),(((0:Int),((0:Int),(false,((0:Int),(([]:List (Ty.den (.int .u8))),(([]:List (Ty.den (.int .u8))),())))))),(([]:List (Ty.den (.int .u8))),()))))) 34 39),
oM 9 40])
(sq (kr [0,1,2,7,9] [oM 41 9,
oM 42 1,
oD 43 (.slice 10 41 (some 42) none none),
oM 44 2,
oD 45 (.copy Y2 43 44)])
(sq (kd [0,1,7,9] [(oM 46 9,[]),
(oM 47 1,[0]),
(oM 48 7,[0,0]),
(oB 49 .add 47 48,[2]),
(oD 50 (.slice 10 46 (some 49) none none),[]),
(oM 51 0,[0,0,0,0,0]),
(oM 52 1,[0,0,0,0,0,0]),
(oD 53 (.slice 10 51 (some 52) none none),[2,0,0,0,0]),
(oD 54 (.copy Y2 50 53),[])])
(sq (kr [9] [oM 55 9,
oM 6 55])
.ret))))
.skip))
(sq (kr [0,1,2,7,8] [oM 56 0,
oM 57 8,
oM 58 7,
oB 59 .add 57 58,
oD 60 (.sliceX 10 56 59),
oM 0 60])
(sq (sq (kr [0,1,2,7,8] [oM 61 2,
oM 62 0,
oM 63 1,
oM 64 7,
oB 65 .add 63 64,
oD 66 (.sliceP 10 62 (some 65) none),
oD 67 (.ovl 37 61 66),
oD 68 (.un .not 67)])
(.cond 68
(sq (kd [0,1,2,7] [(oM 69 0,[]),
(oM 70 1,[0]),
(oM 71 7,[0,0]),
(oB 72 .add 70 71,[2]),
(oD 73 (.sliceP 10 69 (some 72) none),[]),
(oM 74 0,[0,0,0,0,0]),
(oM 75 1,[0,0,0,0,0,0]),
(oD 76 (.sliceP 10 74 (some 75) none),[2,0,0,0,0]),
(oD 77 (.copyP Y2 73 76),[])])
(sq (kr [0,1,2] [oM 78 0,
oM 79 1,
oD 80 (.slice 10 78 (some 79) none none),
oM 81 2,
oD 82 (.copy Y2 80 81)])
(sq (.reg [oM 83 0,
oM 6 83])
.ret)))
.skip))
(sq (kr [0,1,2,7,8] [oM 84 0,
oM 85 8,
oD 86 (.slice 10 84 (some 85) none none),
oM 87 2,
oD 88 (.copy Y2 86 87)])
(sq (kr [0,1,7] [oM 89 0,
oM 90 1,
oD 91 (.slice 10 89 (some 90) none none),
oM 92 7,
oC 93 38 [91,92]])
(sq (.reg [oM 94 0,
oM 6 94])
.ret))))))))))))
def qj_:List RD:=[.tmp 6 false none]
theorem qm_:zl_ Tryz.prog Tryz.f22 qn_ qj_=true:=by kernel_rfl
def zU_:List AV->List Obj->Option NdR
 | [.own 0,.int .i64 i,.own 1],[.row false ty0 l,.row false ty1 q]=>Zj_ ty0 Y2 l fun l=>Zj_ ty1 Y2 q fun q=>some (⟨(q:List AC).length=1/\0<=i/\i < (l:List AC).length/\(l:List AC).length<=1000000,Bool,fun _=>True,fun _=>.own 2,fun b=>[match b with | true=>.dead | false=>.row false Y2 l,.row false Y2 q,.row false Y2 ((l:List AC).take i.toNat++(q:List AC)++(l:List AC).drop i.toNat)]⟩)
 | _,_=>none
theorem qf_:uX_ Tryz.prog 22 (NdF zU_):=by
 refine Ba_ Tryz.func22 qm_ (ze_ _) fun args objs r e=>?_
 unfold zU_ at e
 split at e
 ·rename_i i ty0 l ty1 q
  obtain rfl:=zz_ e
  replace e:=zA_ e
  obtain rfl:=zz_ e
  replace e:=zA_ e
  cases e
  refine ⟨rfl,fun hw ho hp=>?_⟩
  change List AC at l
  change List AC at q
  clear hw ho
  obtain ⟨h1,h2,h3,h4⟩:=hp
  repeat'(intro t ht;first|(cases t<;>first|(cases ht;done)|(try simp only[zh_]at ht;try(exfalso;first|contradiction|omega)))|((first|refine za_ ht ?_|refine ht ?_ ?_|refine ht.1 ?_ ?_|refine ht ?_)<;>clear ht))
  all_goals first
   | exact True.intro
   | omega
   | (constructor<;>omega)
   | (simp only [zk_];omega)
   | refine ⟨fun c hc=>?_⟩
  all_goals repeat'(intro t ht;first|(cases t<;>first|(cases ht;done)|(try simp only[zh_]at ht;try(exfalso;first|contradiction|omega)))|((first|refine za_ ht ?_|refine ht ?_ ?_|refine ht.1 ?_ ?_|refine ht ?_)<;>clear ht))
  all_goals first
   | exact True.intro
   | omega
   | (constructor<;>omega)
   | (simp only [zk_];omega)
   | exact (show 0 < q.length/\0 < l.length/\0 < 10/\0 < 10 by omega)
   | (simp only [List.length_append,List.length_take,List.length_drop,List.length_replicate];omega)
   | exact ⟨true,True.intro,rfl,congrArg (fun z=>[Obj.dead,Obj.row false Y2 q,Obj.row false Y2 z]) (hr_ h1 (by omega) (by omega) (by omega) (by omega) (by simp only [List.length_append,List.length_take,List.length_drop];omega) rfl (by simp only [List.length_append,List.length_take,List.length_drop];omega))⟩
   | exact ⟨false,True.intro,rfl,congrArg (fun z=>[Obj.row false Y2 l,Obj.row false Y2 q,Obj.row false Y2 z]) (hs_ h1 (by omega) (by omega) (by omega) (by (try simp only [List.length_append,List.length_take,List.length_drop,List.length_replicate]);omega) (by (try simp only [List.length_append,List.length_take,List.length_drop,List.length_replicate]);omega) (by (try simp only [List.length_append,List.length_take,List.length_drop,List.length_replicate]);omega) (by omega) (by omega) (by (try simp only [List.length_append,List.length_take,List.length_drop,List.length_replicate]);omega) (by omega) (by (try simp only [List.length_append,List.length_take,List.length_drop,List.length_replicate]);omega))⟩
 ·cases e
def YV_ (x a:AC):Bool:=decide (zx_ x.1=zx_ a.1) && decide (x.1=a.1) && decide (flA x=flA a)
def qg_ (out:List AC) (a:AC):List AC:=
 if ZW_ (fun x=>decide (0<=Wl_ x a)) out 0 < 0 then out++[a]
 else if YV_ (out.getD (ZW_ (fun x=>decide (0<=Wl_ x a)) out 0).toNat (Ty.dflt Y2)) a=true then out.set (ZW_ (fun x=>decide (0<=Wl_ x a)) out 0).toNat a
 else out.take (ZW_ (fun x=>decide (0<=Wl_ x a)) out 0).toNat++[a]++out.drop (ZW_ (fun x=>decide (0<=Wl_ x a)) out 0).toNat
def wok (set l:List AC):Bool:=rtA set && !(l.any fun o=>!Zv_ o)
def wtL (set l:List AC):List AC:=if wok set l=true then l.foldl qg_ set else []
def wtE (set l:List AC):Int:=if wok set l=true then 0 else 10001
theorem hv_ (out:List AC) (a:AC):(qg_ out a).length<=out.length+1:=by
 unfold qg_
 split
 ·rw [List.length_append];exact Nat.le_refl _
 ·split
  ·rw [List.length_set];omega
  ·rw [List.length_append,List.length_append,List.length_take,List.length_drop];show min _ _+1+_<=_;omega
theorem yL_:∀ (l set:List AC),(l.foldl qg_ set).length<=set.length+l.length
 | [],set=>Nat.le_refl _
 | a :: r,set=>by
   have h1:=yL_ r (qg_ set a)
   have h2:=hv_ set a
   show (r.foldl qg_ (qg_ set a)).length<=_
   rw [List.length_cons];omega
theorem U1_ {l set:List AC} {i:Nat} {d:AC} (h:i < l.length):(l.take (i+1)).foldl qg_ set=qg_ ((l.take i).foldl qg_ set) (l.getD i d):=by
 rw [<- kc_ (d:=d) h,List.foldl_append];rfl
def Wx_:IR:=
(sq (kr [0,1] [oD 4 (.mov (.c (.imm Y2 []))),
oD 5 (.mov (cI 0))])
(sq (sq (kr [0,1] [oM 11 0,
oC 12 12 [11],
oD 13 (.un .not 12),
oM 14 13,
oF 14 15 (.mov 1),
oF 14 16 (.call false (.f 13) [15,(.f 14)]),
oP 17 14 cT 16])
(.cond 17
(sq (kr [] [oD 4 (.mov (.c (.imm Y2 []))),
oD 5 (.mov (cI 10001))])
.ret)
.skip))
(sq (kr [0,1] [oM 18 0,
oD 19 (.call true (.f 16) [18]),
oM 6 19])
(sq (sq (.reg [oM 20 1,
oE 21 20,
oD 22 (.mov (cI 0))])
(.block 0
(.loop
(sq (kr [6,20,21,22] [oB 23 .lss 22 21])
(sq (.cond 23
.skip
(.exit 0))
(sq (.block 1
(sq (.reg [oI 24 10 20 22,
oK 25 10 24,
oD 8 (.box [.int .i64 0,.int .u64 0,.int .u64 0,.int .i64 0,.int .i64 0,.kb false,.int .u64 0,.imm (.int .u8) [],.imm (.int .u8) [],.imm (.int .u8) []]),
oS 10 8 25])
(sq (.reg [oK 26 10 8,
oC 27 17 [26],
oD 9 (.box [.int .i64 0,.int .i64 0,.int .i64 0]),
oS 3 9 27])
(sq (kr [6,8,9,20,21,22] [oM 28 6,
oD 29 (.mkfn 19 [] [9]),
oC 30 18 [28,29],
oM 10 30])
(.block 2
(sq (.reg [oM 38 10,
oB 39 .lss 38 (cI 0),
oM 37 39])
(.cond 37
(kr [6,8,20,21,22] [oM 40 6,
oK 41 10 8,
oC 42 21 [41],
oD 43 (.sliceOwn Y2 1 [(0,10,42)]),
oD 44 (.append Y2 128 40 43),
oM 6 44])
(sq (kd [6,8,9,10,20,21,22] [(oM 46 6,[]),
(oM 47 10,[0]),
(oI 48 10 46 47,[]),
(oK 49 10 48,[]),
(oC 50 17 [49],[]),
(oK 51 3 9,[0,0,0,0,0]),
(oD 52 (.eqs false [.int .i64,.int .i64,.int .i64] 50 51),[]),
(oM 45 52,[])])
(.cond 45
(kr [6,8,10,20,21,22] [oM 53 6,
oM 54 10,
oK 55 10 8,
oC 56 21 [55],
oI 57 10 53 54,
oS 10 57 56])
(kr [6,8,10,20,21,22] [oM 31 6,
oM 32 10,
oK 33 10 8,
oC 34 21 [33],
oD 35 (.sliceOwn Y2 1 [(0,10,34)]),
oD 36 (.calln (.f 22) [31,32,35]),
oM 6 36]))))))))))
(kr [6,20,21,22] [oB 58 .add 22 (cI 1),
oM 22 58])))))))
(sq (kr [6] [oM 59 6,
oM 4 59,
oD 5 (.mov (cI 0))])
.ret)))))
def Wg_:List RD:=[.tmp 4 true (some Y2),.tmp 5 true none]
theorem Wp_:zl_ Tryz.prog Tryz.f6 Wx_ Wg_=true:=by kernel_rfl
def qu_:List AV->List Obj->Option (Prop × AV)
 | [.imm ty0 u,.imm ty1 l],[]=>Zj_ ty0 Y2 u fun u=>Zj_ ty1 Y2 l fun l=>some ((okL u/\okL l/\(u:List AC).length<=100000/\(l:List AC).length<=100000,.tup [.imm Y2 (wtL u l),.int .i64 (wtE u l)]))
 | _,_=>none
theorem kf_:zf_ Tryz.prog 6 (RoF qu_).sum:=by
 refine zi_ Tryz.func6 Wp_ (zc_ (s:=RoF ZJ_) qA_ (zc_ (s:=RoF zu_) z2_ (zc_ (s:=RoF ZP_) Qp_ (zc_ (s:=RwF QZ_) js_ (zc_ (s:=RoF qZ_) Q2_ (zc_ (s:=RoF ZO_) Qo_ (zc_ (s:=RoF zq_) zE_ (zc_ (s:=RwF qP_) k4_ (zc_ (s:=NdF zU_) qf_ (ze_ _)))))))))) fun args objs p v e=>?_
 unfold qu_ at e
 split at e
 ·rename_i ty0 u ty1 l
  obtain rfl:=zz_ e
  replace e:=zA_ e
  obtain rfl:=zz_ e
  replace e:=zA_ e
  cases e
  refine ⟨rfl,fun hw ho hp=>?_⟩
  change List AC at u
  change List AC at l
  clear hw ho
  obtain ⟨hp1,hp2,hu,hl⟩:=hp
  cases hr:rtA u with
  | false=>
    have e1:wtL u l=[]:=by unfold wtL wok;rw [hr];rfl
    have e2:wtE u l=10001:=by unfold wtE wok;rw [hr];rfl
    rw [e1,e2]
    repeat'(intro t ht;first|(cases t<;>first|(cases ht;done)|(try simp only[zh_]at ht;try(exfalso;first|contradiction|omega)))|((first|refine za_ ht ?_|refine ht ?_ ?_|refine ht.1 ?_ ?_|refine ht ?_)<;>clear ht))
    all_goals first
     | exact True.intro
     | exact hp1
     | exact hp2
     | exact ⟨rfl,by first | rfl | exact True.intro⟩
     | (exfalso;rw [hr] at*;contradiction)
  | true=>
    cases ha:l.any (fun o=>!Zv_ o) with
    | true=>
      have e1:wtL u l=[]:=by unfold wtL wok;rw [hr,ha];rfl
      have e2:wtE u l=10001:=by unfold wtE wok;rw [hr,ha];rfl
      rw [e1,e2]
      repeat'(intro t ht;first|(cases t<;>first|(cases ht;done)|(try simp only[zh_]at ht;try(exfalso;first|contradiction|omega)))|((first|refine za_ ht ?_|refine ht ?_ ?_|refine ht.1 ?_ ?_|refine ht ?_)<;>clear ht))
      all_goals first
       | exact True.intro
       | exact hp1
       | exact hp2
       | exact ⟨rfl,by first | rfl | exact True.intro⟩
       | (exfalso;rw [hr] at*;contradiction)
       | (exfalso;rw [ha] at*;contradiction)
    | false=>
      have e1:wtL u l=l.foldl qg_ u:=by unfold wtL wok;rw [hr,ha];rfl
      have e2:wtE u l=0:=by unfold wtE wok;rw [hr,ha];rfl
      rw [e1,e2]
      repeat'(intro t ht;first|(cases t<;>first|(cases ht;done)|(try simp only[zh_]at ht;try(exfalso;first|contradiction|omega)))|((first|refine za_ ht ?_|refine ht ?_ ?_|refine ht.1 ?_ ?_|refine ht ?_)<;>clear ht))
      all_goals first
       | exact True.intro
       | exact hp1
       | exact hp2
       | (exfalso;rw [hr] at*;contradiction)
       | (exfalso;rw [ha] at*;contradiction)
       | (intro r h1 h2;clear h1;refine h2 ⟨[6,20,21,22],(Nat × List AC),(fun p=>p.1<=l.length/\p.2=(l.take p.1).foldl qg_ u),fun p=>[.own 0,.imm Y2 l,.int .i64 l.length,.int .i64 p.1],fun p=>[.row false Y2 p.2],fun p=>l.length - p.1,⟨(0,u),⟨Nat.zero_le _,rfl⟩,rfl,rfl⟩,?_⟩;clear h2)
      rintro ⟨i,out⟩ ⟨hi,hout⟩
      dsimp only at hi hout
      have hq1:=yL_ (l.take i) u
      have hq2:(l.take i).length=i:=Jb_ hi
      rw [<- hout,hq2] at hq1
      by_cases hlt:i < l.length
      ·have hln:=hp2.a _ (zM_ hlt (Ty.dflt Y2))
       have hst:(l.take (i+1)).foldl qg_ u=qg_ out (l.getD i (Ty.dflt Y2)):=by rw [hout];exact U1_ (set:=u) (d:=(Ty.dflt Y2)) hlt
       rcases KY_ (fun x=>decide (0<=Wl_ x (l.getD i (Ty.dflt Y2)))) (Ty.dflt Y2) out 0 with ⟨y1,y2⟩ | ⟨k,y1,y2,y3,y4⟩
       ·have hi1:qg_ out (l.getD i (Ty.dflt Y2))=out++[l.getD i (Ty.dflt Y2)]:=by unfold qg_;rw [y1];rfl
        change ZW_ (fun a=>decide (0<=wd_ (zx_ a.1) a.1 (flA a) (zx_ (l.getD i (Ty.dflt Y2)).1) (l.getD i (Ty.dflt Y2)).1 (flF (l.getD i (Ty.dflt Y2)).1 (l.getD i (Ty.dflt Y2)).2.2.2.1.2.1))) out 0=-1 at y1
        repeat'(intro t ht;first|(cases t<;>first|(cases ht;done)|(try simp only[zh_]at ht;try(exfalso;first|contradiction|omega)))|((first|refine za_ ht ?_|refine ht ?_ ?_|refine ht.1 ?_ ?_|refine ht ?_)<;>clear ht))
        all_goals (try generalize (Ty.dflt Y2)=od at*)
        all_goals (try simp only [Zi_,Int.toNat_natCast,hN_])
        all_goals first
         | exact True.intro
         | omega
         | exact ⟨by have:=hln.2.2;exact Nat.le_trans this (by decide),hln.1,hln.2.1⟩
         | (simp only [List.length_append,List.length_cons,List.length_nil];omega)
         | (simp only [List.length_append,List.length_cons,List.length_nil];constructor<;>omega)
         | (simp only [zk_];omega)
         | (refine ⟨(i+1,qg_ out (l.getD i od)),⟨by dsimp only;omega,hst.symm⟩,by dsimp only;omega,rfl,?_⟩
            dsimp only;rw [hi1])
       ·rw [Int.zero_add] at y2
        have hi2:YV_ (out.getD k (Ty.dflt Y2)) (l.getD i (Ty.dflt Y2))=true->qg_ out (l.getD i (Ty.dflt Y2))=out.set k (l.getD i (Ty.dflt Y2)):=fun h=>by
         unfold qg_;rw [y2,if_neg (by omega),Int.toNat_natCast,if_pos h]
        have hi3:YV_ (out.getD k (Ty.dflt Y2)) (l.getD i (Ty.dflt Y2))=false->qg_ out (l.getD i (Ty.dflt Y2))=out.take k++[l.getD i (Ty.dflt Y2)]++out.drop k:=fun h=>by
         unfold qg_;rw [y2,if_neg (by omega),Int.toNat_natCast,if_neg (by rw [h];decide)]
        change ZW_ (fun a=>decide (0<=wd_ (zx_ a.1) a.1 (flA a) (zx_ (l.getD i (Ty.dflt Y2)).1) (l.getD i (Ty.dflt Y2)).1 (flF (l.getD i (Ty.dflt Y2)).1 (l.getD i (Ty.dflt Y2)).2.2.2.1.2.1))) out 0=k at y2
        repeat'(intro t ht;first|(cases t<;>first|(cases ht;done)|(try simp only[zh_]at ht;try(exfalso;first|contradiction|omega)))|((first|refine za_ ht ?_|refine ht ?_ ?_|refine ht.1 ?_ ?_|refine ht ?_)<;>clear ht))
        all_goals (try generalize (Ty.dflt Y2)=od at*)
        all_goals (try simp only [Zi_,Int.toNat_natCast,hN_,y2])
        all_goals first
         | exact True.intro
         | omega
         | exact ⟨by have:=hln.2.2;exact Nat.le_trans this (by decide),hln.1,hln.2.1⟩
         | (simp only [List.length_append,List.length_cons,List.length_nil];omega)
         | (simp only [List.length_append,List.length_cons,List.length_nil];constructor<;>omega)
         | (simp only [zk_];omega)
         | (simp only [y2,Int.toNat_natCast] at ht
            have hpl:YV_ (out.getD k od) (l.getD i od)=true:=by
             obtain ⟨p1,p2,p3,_⟩:=ht
             unfold YV_ flA;rw [decide_eq_true p1,decide_eq_true p2,decide_eq_true p3];rfl
            refine ⟨(i+1,qg_ out (l.getD i od)),⟨by dsimp only;omega,hst.symm⟩,by dsimp only;omega,rfl,?_⟩
            dsimp only;rw [hi2 hpl])
         | exact ⟨rfl,by omega,by omega,by omega⟩
         | (rename _\/_=>ht2
            simp only [y2,Int.toNat_natCast] at ht2
            have hpl:YV_ (out.getD k od) (l.getD i od)=false:=by
             unfold YV_ flA;rcases ht2 with p | p | p | p<;>first | (cases p;done) | (rw [decide_eq_false p];rfl) | (rw [decide_eq_false p,Bool.and_false];rfl) | (rw [decide_eq_false p,Bool.and_false])
            refine ⟨(i+1,qg_ out (l.getD i od)),⟨by dsimp only;omega,hst.symm⟩,by dsimp only;omega,rfl,?_⟩
            dsimp only;rw [hi3 hpl])
      ·have hend:=congrArg (fun z:List AC=>z.foldl qg_ u) (List.take_of_length_le (show l.length<=i by omega))
       repeat'(intro t ht;first|(cases t<;>first|(cases ht;done)|(try simp only[zh_]at ht;try(exfalso;first|contradiction|omega)))|((first|refine za_ ht ?_|refine ht ?_ ?_|refine ht.1 ?_ ?_|refine ht ?_)<;>clear ht))
       all_goals first
        | exact True.intro
        | omega
        | (rw [hout,hend];exact ⟨rfl,by first | rfl | exact True.intro⟩)
 ·cases e
def stp (a:AC) (s:Bool × List AC) (x:AC):Bool × List AC:=(s.1 || !Q5_ x a,(if (!s.1 && !Q5_ x a)=true then s.2++[a] else s.2)++(if xi_ x a=true then [] else [x]))
def stR (a:AC) (l:List AC):Bool × List AC:=l.foldl (stp a) (false,[])
def Ke_ (out:List AC) (a:AC):List AC:=if (stR a out).1=true then (stR a out).2 else (stR a out).2++[a]
def wtR (set l:List AC):List AC:=if wok set l=true then l.foldl Ke_ set else []
theorem wK_ {a x:AC} {s1 b c:Bool} {s2:List AC} (h1:Q5_ x a=b) (h2:xi_ x a=c):stp a (s1,s2) x=(s1 || !b,(if (!s1 && !b)=true then s2++[a] else s2)++(if c=true then [] else [x])):=by
 unfold stp;rw [h1,h2]
theorem GV_ {a:AC} {l:List AC} {k:Nat} {d:AC} (h:k < l.length):stR a (l.take (k+1))=stp a (stR a (l.take k)) (l.getD k d):=by
 unfold stR
 rw [<- kc_ (d:=d) h,List.foldl_append];rfl
theorem Hk_ (a:AC) (s:Bool × List AC) (x:AC) (n:Nat) (h:s.2.length<=n+(if s.1=true then 1 else 0)):(stp a s x).2.length<=n+1+(if (stp a s x).1=true then 1 else 0):=by
 obtain ⟨b,l⟩:=s
 unfold stp
 dsimp only at*
 cases b<;>cases Q5_ x a<;>cases xi_ x a<;>simp at*<;>omega
theorem yJ_ (a:AC):∀ (l:List AC) (s:Bool × List AC) (n:Nat),s.2.length<=n+(if s.1=true then 1 else 0)->(l.foldl (stp a) s).2.length<=n+l.length+(if (l.foldl (stp a) s).1=true then 1 else 0)
 | [],s,n,h=>h
 | x :: r,s,n,h=>by
   have:=yJ_ a r (stp a s x) (n+1) (Hk_ a s x n h)
   rw [List.foldl_cons,List.length_cons];omega
theorem gr_ (a:AC) (l:List AC):(stR a l).2.length<=l.length+(if (stR a l).1=true then 1 else 0):=by
 have:=yJ_ a l (false,[]) 0 (by simp)
 rw [Nat.zero_add] at this
 exact this
theorem GW_ (a:AC) (l:List AC):(stR a l).2.length<=l.length+1:=by
 have:=gr_ a l
 split at this<;>omega
theorem ht_ (out:List AC) (a:AC):(Ke_ out a).length<=out.length+1:=by
 have:=gr_ a out
 unfold Ke_
 split
 ·rw [if_pos (by assumption)] at this;exact this
 ·rw [if_neg (by assumption)] at this;rw [List.length_append];show _+1<=_;omega
theorem yK_:∀ (l set:List AC),(l.foldl Ke_ set).length<=set.length+l.length
 | [],set=>Nat.le_refl _
 | a :: r,set=>by
   have h1:=yK_ r (Ke_ set a)
   have h2:=ht_ set a
   show (r.foldl Ke_ (Ke_ set a)).length<=_
   rw [List.length_cons];omega
theorem U0_ {l set:List AC} {i:Nat} {d:AC} (h:i < l.length):(l.take (i+1)).foldl Ke_ set=Ke_ ((l.take i).foldl Ke_ set) (l.getD i d):=by
 rw [<- kc_ (d:=d) h,List.foldl_append];rfl
theorem b3_ {u l:List AC} {i:Nat} {d:AC} (h:i < l.length) (h1:Zv_ (l.getD i d)=false):wok u l=false:=by
 unfold wok
 rw [List.any_eq_true.2 ⟨_,zM_ h d,by rw [h1];rfl⟩,Bool.not_true,Bool.and_false]
theorem b2_ {u l:List AC} {i:Nat} {d:AC} (hu:rtA u=true) (h:l.length<=i) (h1:∀ j,j < i->Zv_ (l.getD j d)=true):wok u l=true:=by
 unfold wok
 rw [hu,Bool.true_and,Bool.not_eq_true',List.any_eq_false]
 intro x hx
 obtain ⟨j,hj,rfl⟩:=List.mem_iff_getElem.1 hx
 have:=h1 j (by omega)
 rw [List.getD_eq_getElem?_getD,List.getElem?_eq_getElem hj] at this
 have e:Zv_ l[j]=true:=this
 rw [e];decide
def vx_:IR:=
(sq (kr [0,1] [oD 4 (.nilrow Y2),
oD 5 (.mov (cI 0))])
(sq (sq (.reg [oM 11 0,
oC 12 23 [11],
oD 13 (.un .not 12)])
(.cond 13
(sq (.reg [oD 4 (.nilrow Y2),
oD 5 (.mov (cI 10001))])
.ret)
.skip))
(sq (kr [0,1] [oD 14 (.slice0 Y2),
oM 15 0,
oD 16 (.append Y2 128 14 15),
oM 6 16])
(sq (sq (.reg [oD 7 (.mov (cI 0))])
(.block 0
(.loop
(sq (sq (kr [1,6,7] [oM 17 7,
oM 18 1,
oE 19 18,
oB 20 .lss 17 19])
(.cond 20
.skip
(.exit 0)))
(sq (.block 1
(sq (sq (kr [1,6,7] [oM 23 1,
oM 24 7,
oI 25 10 23 24,
oK 26 10 25,
oC 27 24 [26],
oD 28 (.un .not 27)])
(.cond 28
(sq (kr [] [oD 4 (.nilrow Y2),
oD 5 (.mov (cI 10001))])
.ret)
.skip))
(sq (kr [1,6,7] [oD 8 (.nilrow Y2)])
(sq (.reg [oD 9 (.mov cF)])
(sq (sq (.reg [oD 10 (.mov (cI 0))])
(.block 2
(.loop
(sq (sq (kr [1,6,7,8,9,10] [oM 29 10,
oM 30 6,
oE 31 30,
oB 32 .lss 29 31])
(.cond 32
.skip
(.exit 2)))
(sq (.block 3
(sq (sq (kd [1,6,7,8,9,10] [(oM 35 9,[]),
(oD 36 (.un .not 35),[]),
(oM 37 36,[]),
(oT 37 38 (.mov 6),[]),
(oT 37 39 (.mov 10),[0]),
(oT 37 40 (.indexSl 10 38 39),[]),
(oT 37 41 (.load (some 10) 40),[]),
(oT 37 42 (.mov 1),[0,0,0,0]),
(oT 37 43 (.mov 7),[0,0,0,0,0]),
(oT 37 44 (.indexSl 10 42 43),[2,0,0,0]),
(oT 37 45 (.load (some 10) 44),[3,0,0,0]),
(oT 37 46 (.call false (.f 25) [41,45]),[]),
(oT 37 47 (.un .not 46),[]),
(oP 48 37 47 cF,[])])
(.cond 48
(sq (kr [1,6,7,8,10] [oM 49 8,
oM 50 1,
oM 51 7,
oI 52 10 50 51,
oK 53 10 52,
oD 54 (.sliceAll Y2 1 [(0,10,53)]),
oD 55 (.append Y2 128 49 54),
oM 8 55])
(kr [1,6,7,8,10] [oD 9 (.mov cT)]))
.skip))
(sq (kd [1,6,7,8,9,10] [(oM 56 6,[]),
(oM 57 10,[0]),
(oI 58 10 56 57,[]),
(oK 59 10 58,[]),
(oM 60 1,[0,0,0,0]),
(oM 61 7,[0,0,0,0,0]),
(oI 62 10 60 61,[2,0,0,0]),
(oK 63 10 62,[3,0,0,0]),
(oC 64 26 [59,63],[]),
(oD 65 (.un .not 64),[])])
(.cond 65
(kr [1,6,7,8,9,10] [oM 66 8,
oM 67 6,
oM 68 10,
oI 69 10 67 68,
oK 70 10 69,
oD 71 (.sliceAll Y2 1 [(0,10,70)]),
oD 72 (.append Y2 128 66 71),
oM 8 72])
.skip))))
(kr [1,6,7,8,9,10] [oM 33 10,
oB 34 .add 33 (cI 1),
oM 10 34]))))))
(sq (sq (kr [1,7,8,9] [oM 73 9,
oD 74 (.un .not 73)])
(.cond 74
(kr [1,7,8] [oM 75 8,
oM 76 1,
oM 77 7,
oI 78 10 76 77,
oK 79 10 78,
oD 80 (.sliceAll Y2 1 [(0,10,79)]),
oD 81 (.append Y2 128 75 80),
oM 8 81])
.skip))
(kr [1,7,8] [oM 82 8,
oM 6 82])))))))
(kr [1,6,7] [oM 21 7,
oB 22 .add 21 (cI 1),
oM 7 22]))))))
(sq (kr [6] [oM 83 6,
oM 4 83,
oD 5 (.mov (cI 0))])
.ret)))))
def YB_:List RD:=[.tmp 4 true (some Y2),.tmp 5 true none]
theorem Y2_:zl_ Tryz.prog Tryz.f7 vx_ YB_=true:=by kernel_rfl
def KD_:List AV->List Obj->Option (Prop × AV)
 | [.imm ty0 u,.imm ty1 l],[]=>Zj_ ty0 Y2 u fun u=>Zj_ ty1 Y2 l fun l=>some ((okL u/\okL l/\(u:List AC).length<=100000/\(l:List AC).length<=100000,.tup [.imm Y2 (wtR u l),.int .i64 (wtE u l)]))
 | _,_=>none
theorem Xr_:zf_ Tryz.prog 7 (RoF KD_).sum:=by
 refine zi_ Tryz.func7 Y2_ (zc_ (s:=RoF KE_) Xs_ (zc_ (s:=RoF K8_) wN_ (zc_ (s:=RoF QV_) jo_ (zc_ (s:=RoF KF_) Xt_ (ze_ _))))) fun args objs p v e=>?_
 unfold KD_ at e
 split at e
 ·rename_i ty0 u ty1 l
  obtain rfl:=zz_ e
  replace e:=zA_ e
  obtain rfl:=zz_ e
  replace e:=zA_ e
  cases e
  refine ⟨rfl,fun hw ho hp=>?_⟩
  change List AC at u
  change List AC at l
  clear hw ho
  obtain ⟨hp1,hp2,hu,hl⟩:=hp
  cases hr:rtA u with
  | false=>
    have e1:wtR u l=[]:=by unfold wtR wok;rw [hr];rfl
    have e2:wtE u l=10001:=by unfold wtE wok;rw [hr];rfl
    rw [e1,e2]
    repeat'(intro t ht;first|(cases t<;>first|(cases ht;done)|(try simp only[zh_]at ht;try(exfalso;first|contradiction|omega)))|((first|refine za_ ht ?_|refine ht ?_ ?_|refine ht.1 ?_ ?_|refine ht ?_)<;>clear ht))
    all_goals first
     | exact True.intro
     | exact hp1
     | exact hp2
     | exact ⟨rfl,by first | rfl | exact True.intro⟩
     | (exfalso;rw [hr] at*;contradiction)
  | true=>
    repeat'(intro t ht;first|(cases t<;>first|(cases ht;done)|(try simp only[zh_]at ht;try(exfalso;first|contradiction|omega)))|((first|refine za_ ht ?_|refine ht ?_ ?_|refine ht.1 ?_ ?_|refine ht ?_)<;>clear ht))
    all_goals first
     | exact True.intro
     | exact hp1
     | exact hp2
     | ((try simp only [List.length_nil]);omega)
     | ((try simp only [List.length_nil]);constructor<;>omega)
     | (exfalso;rw [hr] at*;contradiction)
     | (intro r h1 h2;clear h1;refine h2 ⟨[1,6,7],(Nat × List AC),(fun p=>p.1<=l.length/\p.2=(l.take p.1).foldl Ke_ u/\∀ j,j < p.1->Zv_ (l.getD j (Ty.dflt Y2))=true),fun p=>[.imm Y2 l,.own 0,.int .i64 p.1],fun p=>[.row false Y2 p.2],fun p=>l.length - p.1,⟨(0,u),⟨Nat.zero_le _,rfl,fun j h=>absurd h (Nat.not_lt_zero j)⟩,rfl,rfl⟩,?_⟩;clear h2)
    rintro ⟨i,out⟩ ⟨hi,hout,hm⟩
    dsimp only at hi hout hm
    have hq1:=yK_ (l.take i) u
    have hq2:(l.take i).length=i:=Jb_ hi
    rw [<- hout,hq2] at hq1
    by_cases hlt:i < l.length
    ·have hln:=hp2.a _ (zM_ hlt (Ty.dflt Y2))
     have hst:(l.take (i+1)).foldl Ke_ u=Ke_ out (l.getD i (Ty.dflt Y2)):=by rw [hout];exact U0_ (set:=u) (d:=(Ty.dflt Y2)) hlt
     have hwf:=fun h=>b3_ (u:=u) (d:=(Ty.dflt Y2)) hlt h
     repeat'(intro t ht;first|(cases t<;>first|(cases ht;done)|(try simp only[zh_]at ht;try(exfalso;first|contradiction|omega)))|((first|refine za_ ht ?_|refine ht ?_ ?_|refine ht.1 ?_ ?_|refine ht ?_)<;>clear ht))
     all_goals first
      | exact True.intro
      | ((try simp only [Int.toNat_natCast]);omega)
      | exact ⟨hln.1,hln.2.1,hln.2.2⟩
      | (have hw9:=hwf ht
         have e1:wtR u l=[]:=by unfold wtR;rw [hw9];rfl
         have e2:wtE u l=10001:=by unfold wtE;rw [hw9];rfl
         rw [e1,e2];exact ⟨rfl,by first | rfl | exact True.intro⟩)
      | (intro r h1 h2;clear h1;refine h2 ⟨[1,6,7,8,9,10],(Nat × Bool × List AC),(fun s=>s.1<=out.length/\(s.2.1,s.2.2)=stR (l.getD i (Ty.dflt Y2)) (out.take s.1)),fun s=>[.imm Y2 l,.own 0,.int .i64 i,.own 1,.bool s.2.1,.int .i64 s.1],fun s=>[.row false Y2 out,.row false Y2 s.2.2],fun s=>out.length - s.1,⟨(0,false,[]),⟨Nat.zero_le _,rfl⟩,rfl,rfl⟩,?_⟩;clear h2)
     rintro ⟨k,dn,nx⟩ ⟨hk,hs⟩
     dsimp only at hk hs
     have hsl:=GW_ (l.getD i (Ty.dflt Y2)) (out.take k)
     rw [<- hs,Jb_ hk] at hsl
     dsimp only at hsl
     have hss:=fun h:k < out.length=>GV_ (a:=l.getD i (Ty.dflt Y2)) (d:=(Ty.dflt Y2)) h
     have hse:=fun h:out.length<=k=>congrArg (stR (l.getD i (Ty.dflt Y2))) (List.take_of_length_le h)
     rw [<- hs] at hss hse
     repeat'(intro t ht;first|(cases t<;>first|(cases ht;done)|(try simp only[zh_]at ht;try(exfalso;first|contradiction|omega)))|((first|refine za_ ht ?_|refine ht ?_ ?_|refine ht.1 ?_ ?_|refine ht ?_)<;>clear ht))
     all_goals (try simp only [Zi_,Int.toNat_natCast])
     all_goals first
      | exact True.intro
      | omega
      | (simp only [zk_];omega)
      | (simp only [List.length_append,List.length_cons,List.length_nil];omega)
      | (simp only [List.length_append,List.length_cons,List.length_nil];constructor<;>omega)
      | (have hm9:Zv_ (l.getD i (Ty.dflt Y2))=true:=by assumption
         have hx:=hse (by omega)
         have hi9:Ke_ out (l.getD i (Ty.dflt Y2))=if dn=true then nx else nx++[l.getD i (Ty.dflt Y2)]:=by unfold Ke_;rw [<- hx]
         refine ⟨(i+1,Ke_ out (l.getD i (Ty.dflt Y2))),⟨by dsimp only;omega,hst.symm,fun j hj=>?_⟩,by dsimp only;omega,rfl,?_⟩
         ·by_cases e:j=i
          ·rw [e];exact hm9
          ·exact hm j (by dsimp only at hj;omega)
         ·dsimp only;rw [hi9,ht];rfl)
      | (have hk1:k < out.length:=by omega
         have hx:=hss hk1
         have hP:∃ c,xi_ (out.getD k (Ty.dflt Y2)) (l.getD i (Ty.dflt Y2))=c/\(c=true\/c=false):=⟨_,rfl,by cases xi_ (out.getD k (Ty.dflt Y2)) (l.getD i (Ty.dflt Y2))<;>simp⟩
         first
          | (have hp:xi_ (out.getD k (Ty.dflt Y2)) (l.getD i (Ty.dflt Y2))=true:=by
              unfold xi_;rw [decide_eq_true ht.1];exact decide_eq_true ht.2
             first
              | (have hd:dn=true:=by assumption
                 refine ⟨(k+1,_,_),⟨by dsimp only;omega,?_⟩,by dsimp only;omega,rfl,rfl⟩
                 dsimp only;rw [hx,wK_ rfl hp,hd];first | rfl | simp)
              | (have hd:dn=false:=by assumption
                 have ha:Q5_ (out.getD k (Ty.dflt Y2)) (l.getD i (Ty.dflt Y2))=true:=decide_eq_true (by assumption)
                 refine ⟨(k+1,_,_),⟨by dsimp only;omega,?_⟩,by dsimp only;omega,rfl,rfl⟩
                 dsimp only;rw [hx,wK_ ha hp,hd];simp)
              | (have hd:dn=false:=by assumption
                 have ha:Q5_ (out.getD k (Ty.dflt Y2)) (l.getD i (Ty.dflt Y2))=false:=decide_eq_false (by assumption)
                 refine ⟨(k+1,_,_),⟨by dsimp only;omega,?_⟩,by dsimp only;omega,rfl,rfl⟩
                 dsimp only;rw [hx,wK_ ha hp,hd];simp))
          | (have hp:xi_ (out.getD k (Ty.dflt Y2)) (l.getD i (Ty.dflt Y2))=false:=by
              unfold xi_
              rcases ht with p | p
              ·rw [decide_eq_false p];rfl
              ·exact (Bool.and_eq_false_iff.2 (.inr (decide_eq_false p)))
             first
              | (have hd:dn=true:=by assumption
                 refine ⟨(k+1,_,_),⟨by dsimp only;omega,?_⟩,by dsimp only;omega,rfl,rfl⟩
                 dsimp only;rw [hx,wK_ rfl hp,hd];first | rfl | simp)
              | (have hd:dn=false:=by assumption
                 have ha:Q5_ (out.getD k (Ty.dflt Y2)) (l.getD i (Ty.dflt Y2))=true:=decide_eq_true (by assumption)
                 refine ⟨(k+1,_,_),⟨by dsimp only;omega,?_⟩,by dsimp only;omega,rfl,rfl⟩
                 dsimp only;rw [hx,wK_ ha hp,hd];rfl)
              | (have hd:dn=false:=by assumption
                 have ha:Q5_ (out.getD k (Ty.dflt Y2)) (l.getD i (Ty.dflt Y2))=false:=decide_eq_false (by assumption)
                 refine ⟨(k+1,_,_),⟨by dsimp only;omega,?_⟩,by dsimp only;omega,rfl,rfl⟩
                 dsimp only;rw [hx,wK_ ha hp,hd];rfl)))
    ·have e0:l.take i=l:=List.take_of_length_le (by omega)
     rw [e0] at hout
     have hwt:=b2_ (d:=(Ty.dflt Y2)) hr (show l.length<=i by omega) hm
     have e1:wtR u l=out:=by unfold wtR;rw [hwt,hout];rfl
     have e2:wtE u l=0:=by unfold wtE;rw [hwt];rfl
     rw [e1,e2]
     repeat'(intro t ht;first|(cases t<;>first|(cases ht;done)|(try simp only[zh_]at ht;try(exfalso;first|contradiction|omega)))|((first|refine za_ ht ?_|refine ht ?_ ?_|refine ht.1 ?_ ?_|refine ht ?_)<;>clear ht))
     all_goals first
      | exact True.intro
      | omega
      | exact ⟨rfl,by first | rfl | exact True.intro⟩
 ·cases e
def VK_ (l:List AC):List AC:=if rtA l=true then (if l.any (fun a=>decide (a.1=22))=true then dlA l else l) else []
def Gv_ (l:List AC):Bool:=!rtA l || (!(l.any fun a=>decide (a.1=0)) && !(l.any fun a=>decide (a.1=22)))
def xH_:IR:=
(sq (kr [0] [oD 2 (.mov (.c (.imm Y2 [])))])
(sq (sq (.reg [oM 4 0,
oC 5 12 [4],
oD 6 (.un .not 5)])
(.cond 6
(sq (.reg [oD 2 (.mov (.c (.imm Y2 [])))])
.ret)
.skip))
(sq (.reg [oM 7 0,
oD 8 (.call true (.f 16) [7]),
oM 3 8])
(sq (sq (kr [0,3] [oM 9 0,
oC 10 29 [9,(cI 22)]])
(.cond 10
(.reg [oM 11 3,
oD 12 (.call true (.f 30) [11,.f 31]),
oM 3 12])
.skip))
(sq (.reg [oM 13 3,
oM 2 13])
.ret)))))
def W9_:List RD:=[.tmp 2 true (some Y2)]
theorem xq_:zl_ Tryz.prog Tryz.f10 xH_ W9_=true:=by kernel_rfl
def Q9_:List AV->List Obj->Option (Prop × AV)
 | [.imm ty0 l],[]=>Zj_ ty0 Y2 l fun l=>some ((okL l,.imm Y2 (VK_ l)))
 | _,_=>none
theorem Wa_:zf_ Tryz.prog 10 (RoF Q9_).sum:=by
 refine zi_ Tryz.func10 xq_ (zc_ (s:=RoF ZJ_) qA_ (zc_ (s:=RwF QZ_) js_ (zc_ (s:=RoF Qg_) Km_ (zc_ (s:=RwF zH_) ZL_ (zc_ (s:=RoF Zr_) qi_ (ze_ _)))))) fun args objs p v e=>?_
 unfold Q9_ at e
 split at e
 ·rename_i ty0 l
  obtain rfl:=zz_ e
  replace e:=zA_ e
  cases e
  refine ⟨rfl,fun hw ho hp=>?_⟩
  change List AC at l
  clear hw ho
  have hn:=hp.n
  cases hr:rtA l with
  | false=>
    have e1:VK_ l=[]:=by unfold VK_;rw [hr];rfl
    rw [e1]
    repeat'(intro t ht;first|(cases t<;>first|(cases ht;done)|(try simp only[zh_]at ht;try(exfalso;first|contradiction|omega)))|((first|refine za_ ht ?_|refine ht ?_ ?_|refine ht.1 ?_ ?_|refine ht ?_)<;>clear ht))
    all_goals first
     | exact True.intro
     | exact hp
     | exact ⟨rfl,by first | rfl | exact True.intro⟩
     | (exfalso;rw [hr] at*;contradiction)
  | true=>
    cases ha:l.any (fun a=>decide (a.1=22)) with
    | true=>
      have e1:VK_ l=dlA l:=by unfold VK_;rw [hr,ha];rfl
      rw [e1]
      repeat'(intro t ht;first|(cases t<;>first|(cases ht;done)|(try simp only[zh_]at ht;try(exfalso;first|contradiction|omega)))|((first|refine za_ ht ?_|refine ht ?_ ?_|refine ht.1 ?_ ?_|refine ht ?_)<;>clear ht))
      all_goals first
       | exact True.intro
       | exact hp
       | exact hn
       | exact ⟨rfl,by first | rfl | exact True.intro⟩
       | (exfalso;rw [hr] at*;contradiction)
       | (exfalso;rw [ha] at*;contradiction)
    | false=>
      have e1:VK_ l=l:=by unfold VK_;rw [hr,ha];rfl
      rw [e1]
      repeat'(intro t ht;first|(cases t<;>first|(cases ht;done)|(try simp only[zh_]at ht;try(exfalso;first|contradiction|omega)))|((first|refine za_ ht ?_|refine ht ?_ ?_|refine ht.1 ?_ ?_|refine ht ?_)<;>clear ht))
      all_goals first
       | exact True.intro
       | exact hp
       | exact ⟨rfl,by first | rfl | exact True.intro⟩
       | (exfalso;rw [hr] at*;contradiction)
       | (exfalso;rw [ha] at*;contradiction)
 ·cases e
def Wz_:IR:=
(sq (kr [0] [oD 2 (.mov cF)])
(sq (kr [0] [oM 3 0,
oC 4 12 [3],
oD 5 (.un .not 4),
oM 6 5,
oF 6 7 (.mov 0),
oF 6 8 (.call false (.f 29) [7,(cI 0)]),
oF 6 9 (.un .not 8),
oF 6 10 (.mov 9),
oT 10 11 (.mov 0),
oT 10 12 (.call false (.f 29) [11,(cI 22)]),
oT 10 13 (.un .not 12),
oF 6 14 (.pick 10 13 cF),
oP 15 6 cT 14,
oM 2 15])
.ret))
def Wi_:List RD:=[.tmp 2 true none]
theorem Wr_:zl_ Tryz.prog Tryz.f11 Wz_ Wi_=true:=by kernel_rfl
def QD_:List AV->List Obj->Option (Prop × AV)
 | [.imm ty0 l],[]=>Zj_ ty0 Y2 l fun l=>some ((okL l,.bool (Gv_ l)))
 | _,_=>none
theorem J0_:zf_ Tryz.prog 11 (RoF QD_).sum:=by
 refine zi_ Tryz.func11 Wr_ (zc_ (s:=RoF ZJ_) qA_ (zc_ (s:=RoF Qg_) Km_ (ze_ _))) fun args objs p v e=>?_
 unfold QD_ at e
 split at e
 ·rename_i ty0 l
  obtain rfl:=zz_ e
  replace e:=zA_ e
  cases e
  refine ⟨rfl,fun hw ho hp=>?_⟩
  change List AC at l
  clear hw ho
  cases hr:rtA l with
  | false=>
    repeat'(intro t ht;first|(cases t<;>first|(cases ht;done)|(try simp only[zh_]at ht;try(exfalso;first|contradiction|omega)))|((first|refine za_ ht ?_|refine ht ?_ ?_|refine ht.1 ?_ ?_|refine ht ?_)<;>clear ht))
    all_goals first
     | exact True.intro
     | exact hp
     | (refine ⟨congrArg AV.bool ?_,rfl⟩;unfold Gv_;rw [hr];rfl)
     | (exfalso;rw [hr] at*;contradiction)
  | true=>
    cases h0:l.any (fun a=>decide (a.1=0)) with
    | true=>
      repeat'(intro t ht;first|(cases t<;>first|(cases ht;done)|(try simp only[zh_]at ht;try(exfalso;first|contradiction|omega)))|((first|refine za_ ht ?_|refine ht ?_ ?_|refine ht.1 ?_ ?_|refine ht ?_)<;>clear ht))
      all_goals first
       | exact True.intro
       | exact hp
       | (refine ⟨congrArg AV.bool ?_,rfl⟩;unfold Gv_;rw [hr,h0];rfl)
       | (exfalso;rw [hr] at*;contradiction)
       | (exfalso;rw [h0] at*;contradiction)
    | false=>
      repeat'(intro t ht;first|(cases t<;>first|(cases ht;done)|(try simp only[zh_]at ht;try(exfalso;first|contradiction|omega)))|((first|refine za_ ht ?_|refine ht ?_ ?_|refine ht.1 ?_ ?_|refine ht ?_)<;>clear ht))
      all_goals first
       | exact True.intro
       | exact hp
       | (refine ⟨congrArg AV.bool ?_,rfl⟩;unfold Gv_;rw [hr,h0];rfl)
       | (exfalso;rw [hr] at*;contradiction)
       | (exfalso;rw [h0] at*;contradiction)
 ·cases e
def kyT (t:Int):Int:=if t=12 then 0 else if t=18 then 1 else if t=20 then 2 else if t=27 then 3 else if t=19 then 4 else if t=26 then 5 else if t=17 then 6 else if t=11 then 7 else if t=16 then 8 else if t=24 then 9 else if t=15 then 10 else if t=23 then 11 else if t=25 then 12 else if t=21 then 48 else if t=22 then 49 else 50
def kyF (q f:Int):Int:=if q=25 then 9+f else kyT q
def kyA (a:AC):Int:=kyF a.1 a.2.2.2.1.2.1
theorem Bf_:∀ q:Nat,q < 28->0 < zx_ (q:Int)->0<=kyT q/\kyT q<=50/\(kyT q<=12\/48<=kyT q)/\((q:Int)=25 ↔ kyT q=12):=by decide+kernel
theorem bH_:∀ q:Nat,q < 28->∀ p:Nat,p < 28->(decide (0 < zx_ (q:Int)) && decide (0 < zx_ (p:Int)))=true->(decide (zx_ (q:Int) < zx_ (p:Int)) || (decide (zx_ (q:Int)=zx_ (p:Int)) && decide ((q:Int) < p)))=decide (kyT (q:Int) < kyT (p:Int))/\decide ((q:Int)=p)=decide (kyT (q:Int)=kyT (p:Int)):=by decide+kernel
theorem YU_ {q:Int} (h:0 < zx_ q):0<=q/\q < 28:=by
 unfold zx_ at h
 repeat' split at h
 all_goals omega
theorem vr_ {q:Int} (h:0 < zx_ q):0<=kyT q/\kyT q<=50/\(kyT q<=12\/48<=kyT q)/\(q=25 ↔ kyT q=12):=by
 have h1:=YU_ h
 have e:((q.toNat:Nat):Int)=q:=Int.toNat_of_nonneg h1.1
 have:=Bf_ q.toNat (by omega) (by rw [e];exact h)
 rwa [e] at this
theorem gD_ {q p:Int} (h:0 < zx_ q) (h':0 < zx_ p):((zx_ q < zx_ p\/(zx_ q=zx_ p/\q < p)) ↔ kyT q < kyT p)/\(q=p ↔ kyT q=kyT p):=by
 have h1:=YU_ h
 have h2:=YU_ h'
 have e:((q.toNat:Nat):Int)=q:=Int.toNat_of_nonneg h1.1
 have e':((p.toNat:Nat):Int)=p:=Int.toNat_of_nonneg h2.1
 obtain ⟨a1,a2⟩:=bH_ q.toNat (by omega) p.toNat (by omega) (by rw [e,e',decide_eq_true h,decide_eq_true h'];rfl)
 rw [e,e',Bool.eq_iff_iff] at a1 a2
 simp only [Bool.or_eq_true,Bool.and_eq_true,decide_eq_true_eq] at a1 a2
 exact ⟨a1,a2⟩
theorem qR_ {a:AC} (h:Zv_ a=true):0 < zx_ a.1:=by
 unfold Zv_ vp_ at h
 simp only [Bool.and_eq_true,decide_eq_true_eq] at h
 exact h.1
theorem KV_ {a:AC} (h:Zv_ a=true) (h25:a.1=25):2 < a.2.2.2.1.2.1/\a.2.2.2.1.2.1 < 39:=by
 unfold Zv_ vp_ zX_ at h
 rw [if_pos h25] at h
 simp only [Bool.and_eq_true,decide_eq_true_eq] at h
 have:=h.2.2.1.2
 unfold Jj_ at this
 simpa using this
theorem ub_ {x a:AC} (hx:Zv_ x=true) (ha:Zv_ a=true):Wl_ x a < 0 ↔ kyA x < kyA a:=by
 have h1:=vr_ (qR_ hx)
 have h2:=vr_ (qR_ ha)
 have h3:=gD_ (qR_ hx) (qR_ ha)
 have f1:=KV_ hx
 have f2:=KV_ ha
 unfold Wl_
 rw [gx_]
 unfold kyA kyF flA flF
 by_cases e1:x.1=25<;>by_cases e2:a.1=25
 ·rw [if_pos e1,if_pos e1,if_pos e2,if_pos e2,e1,e2];omega
 ·rw [if_pos e1,if_neg e2,if_pos e1,if_neg e2];have:=f1 e1;omega
 ·rw [if_neg e1,if_pos e2,if_neg e1,if_pos e2];have:=f2 e2;omega
 ·rw [if_neg e1,if_neg e2,if_neg e1,if_neg e2];omega
theorem gC_ {x a:AC} (hx:Zv_ x=true) (ha:Zv_ a=true):(x.1=a.1/\flA x=flA a) ↔ kyA x=kyA a:=by
 have h1:=vr_ (qR_ hx)
 have h2:=vr_ (qR_ ha)
 have h3:=gD_ (qR_ hx) (qR_ ha)
 have f1:=KV_ hx
 have f2:=KV_ ha
 unfold kyA kyF flA flF
 by_cases e1:x.1=25<;>by_cases e2:a.1=25
 ·rw [if_pos e1,if_pos e1,if_pos e2,if_pos e2,e1,e2];omega
 ·rw [if_pos e1,if_neg e2,if_pos e1,if_neg e2];have:=f1 e1;omega
 ·rw [if_neg e1,if_pos e2,if_neg e1,if_pos e2];have:=f2 e2;omega
 ·rw [if_neg e1,if_neg e2,if_neg e1,if_neg e2];omega
theorem gw_ {x a:AC} (hx:Zv_ x=true) (ha:Zv_ a=true):xi_ x a=decide (kyA x=kyA a):=by
 rw [Bool.eq_iff_iff,decide_eq_true_eq,<- gC_ hx ha]
 unfold xi_
 rw [Bool.and_eq_true,decide_eq_true_eq,decide_eq_true_eq]
theorem Ht_ {x a:AC} (hx:Zv_ x=true) (ha:Zv_ a=true):YV_ x a=decide (kyA x=kyA a):=by
 rw [Bool.eq_iff_iff,decide_eq_true_eq,<- gC_ hx ha]
 unfold YV_
 rw [Bool.and_eq_true,Bool.and_eq_true,decide_eq_true_eq,decide_eq_true_eq,decide_eq_true_eq]
 constructor
 ·rintro ⟨⟨_,h⟩,k⟩;exact ⟨h,k⟩
 ·rintro ⟨h,k⟩;exact ⟨⟨by rw [h],h⟩,k⟩
def GK_ (l:List AC):Prop:=∀ x ∈ l,Zv_ x=true
def Hl_ (l:List AC):Prop:=l.Pairwise fun x y=>kyA x < kyA y
structure setM (l:List AC):Prop where
 m:GK_ l
 s:Hl_ l
theorem bU_ {l:List AC} (d:AC) (h:∀ i,0 < i->i < l.length->kyA (l.getD (i - 1) d) < kyA (l.getD i d)):Hl_ l:=by
 have hg:∀ i (hi:i < l.length),l.getD i d=l[i]:=fun i hi=>by rw [List.getD_eq_getElem?_getD,List.getElem?_eq_getElem hi];rfl
 refine List.pairwise_iff_getElem.2 fun i j hi hj hij=>?_
 have key:∀ n,∀ j (hj:j < l.length),i < j->j=i+1+n->kyA l[i] < kyA l[j]:=fun n=>by
  induction n with
  | zero=>
    intro j hj _ e
    have:=h j (by omega) hj
    rw [hg j hj,hg (j - 1) (by omega)] at this
    have e2:l[j - 1]'(by omega)=l[i]:=by congr 1;omega
    rwa [e2] at this
  | succ n ih=>
    intro j hj _ e
    have h1:=ih (j - 1) (by omega) (by omega) (by omega)
    have h2:=h j (by omega) hj
    rw [hg j hj,hg (j - 1) (by omega)] at h2
    omega
 exact key (j - i - 1) j hj hij (by omega)
theorem bx_ {l:List AC} (h:rtA l=true):setM l:=by
 have h1:=of_decide_eq_true h
 have hm:GK_ l:=fun x hx=>by
  obtain ⟨i,hi,rfl⟩:=List.mem_iff_getElem.1 hx
  have:=(h1 i hi).1
  rwa [List.getD_eq_getElem?_getD,List.getElem?_eq_getElem hi] at this
 refine ⟨hm,bU_ (Ty.dflt Y2) fun i h0 hi=>?_⟩
 exact (ub_ (hm _ (zM_ (show i - 1 < l.length by omega) _)) (hm _ (zM_ hi _))).1 ((h1 i hi).2 h0)
theorem bv_ {l:List AC} (h:setM l):rtA l=true:=by
 refine decide_eq_true fun i hi=>⟨h.m _ (zM_ hi _),fun h0=>?_⟩
 refine (ub_ (h.m _ (zM_ (show i - 1 < l.length by omega) _)) (h.m _ (zM_ hi _))).2 ?_
 have:=List.pairwise_iff_getElem.1 h.s (i - 1) i (by omega) hi (by omega)
 rw [List.getD_eq_getElem?_getD,List.getD_eq_getElem?_getD,List.getElem?_eq_getElem hi,List.getElem?_eq_getElem (show i - 1 < l.length by omega)]
 exact this
def jM_ (a:AC):List AC->List AC
 | []=>[a]
 | x :: r=>if kyA x < kyA a then x :: jM_ a r else if kyA x=kyA a then a :: r else a :: x :: r
theorem xM_ {a:AC}:∀ (l r:List AC),(∀ x ∈ l,kyA x < kyA a)->jM_ a (l++r)=l++jM_ a r
 | [],r,h=>rfl
 | x :: l,r,h=>by
   show (if kyA x < kyA a then x :: jM_ a (l++r) else _)=_
   rw [if_pos (h x (by simp)),xM_ l r fun y hy=>h y (List.mem_cons_of_mem _ hy)];rfl
theorem Gp_ {out:List AC} {a:AC} (hm:GK_ out) (ha:Zv_ a=true):qg_ out a=jM_ a out:=by
 have hP:∀ x ∈ out,decide (0<=Wl_ x a)=false->kyA x < kyA a:=fun x hx h=>(ub_ (hm x hx) ha).1 (Int.not_le.1 (of_decide_eq_false h))
 rcases KY_ (fun x=>decide (0<=Wl_ x a)) (Ty.dflt Y2) out 0 with ⟨y1,y2⟩ | ⟨k,y1,y2,y3,y4⟩
 ·unfold qg_
  rw [y1,if_pos (by decide)]
  have:=xM_ (a:=a) out [] fun x hx=>hP x hx (y2 x hx)
  rw [List.append_nil] at this
  rw [this];rfl
 ·rw [Int.zero_add] at y2
  have hsp:out=out.take k++out.getD k (Ty.dflt Y2) :: out.drop (k+1):=by
   rw [<- zw_ y1 (Ty.dflt Y2),List.take_append_drop]
  have hlt:(out.take k).length=k:=by rw [List.length_take];omega
  have h1:=xM_ (a:=a) (out.take k) (out.getD k (Ty.dflt Y2) :: out.drop (k+1)) fun x hx=>hP x (List.mem_of_mem_take hx) (y4 x hx)
  rw [<- hsp] at h1
  have hx:=hm _ (zM_ y1 (Ty.dflt Y2))
  have h2:¬ kyA (out.getD k (Ty.dflt Y2)) < kyA a:=fun h=>absurd ((ub_ hx ha).2 h) (Int.not_lt.2 (of_decide_eq_true y3))
  rw [h1]
  unfold qg_
  rw [y2,if_neg (by omega),Int.toNat_natCast,Ht_ hx ha]
  show _=_++(if kyA (out.getD k (Ty.dflt Y2)) < kyA a then _ else if kyA (out.getD k (Ty.dflt Y2))=kyA a then a :: out.drop (k+1) else a :: out.getD k (Ty.dflt Y2) :: out.drop (k+1))
  rw [if_neg h2]
  by_cases h3:kyA (out.getD k (Ty.dflt Y2))=kyA a
  ·rw [if_pos (decide_eq_true h3),if_pos h3,List.set_eq_take_append_cons_drop,if_pos y1]
  ·rw [if_neg (by simpa using h3),if_neg h3,List.append_assoc,zw_ y1 (Ty.dflt Y2)];rfl
theorem xL_ {a:AC}:∀ {l:List AC} {x:AC},x ∈ jM_ a l->x=a\/x ∈ l
 | [],x,h=>.inl (by simpa [jM_] using h)
 | y :: r,x,h=>by
   unfold jM_ at h
   split at h
   ·rcases List.mem_cons.1 h with h | h
    ·exact .inr (by simp [h])
    ·exact (xL_ h).imp id fun h=>List.mem_cons_of_mem _ h
   ·split at h
    ·rcases List.mem_cons.1 h with h | h
     ·exact .inl h
     ·exact .inr (List.mem_cons_of_mem _ h)
    ·rcases List.mem_cons.1 h with h | h
     ·exact .inl h
     ·exact .inr h
theorem ux_ {a:AC}:∀ {l:List AC},Hl_ l->Hl_ (jM_ a l)
 | [],_=>List.pairwise_singleton _ _
 | x :: r,h=>by
   obtain ⟨h1,h2⟩:=List.pairwise_cons.1 h
   unfold jM_
   split
   ·rename_i hlt
    refine List.pairwise_cons.2 ⟨fun y hy=>?_,ux_ h2⟩
    rcases xL_ hy with rfl | hy
    ·exact hlt
    ·exact h1 y hy
   ·split
    ·rename_i he
     exact List.pairwise_cons.2 ⟨fun y hy=>he ▸ h1 y hy,h2⟩
    ·rename_i hl he
     refine List.pairwise_cons.2 ⟨fun y hy=>?_,h⟩
     rcases List.mem_cons.1 hy with rfl | hy
     ·omega
     ·have:=h1 y hy;omega
theorem hu_ {a:AC} {l:List AC} (h:setM l) (ha:Zv_ a=true):setM (jM_ a l):=
 ⟨fun x hx=>by rcases xL_ hx with rfl | hx<;>first | exact ha | exact h.m x hx,ux_ h.s⟩
theorem WQ_ {a:AC} (ha:Zv_ a=true):∀ {R acc:List AC},GK_ R->(∀ x ∈ R,kyA a < kyA x)->R.foldl (stp a) (true,acc)=(true,acc++R)
 | [],acc,_,_=>by rw [List.append_nil];rfl
 | x :: r,acc,hm,h=>by
   have e:stp a (true,acc) x=(true,acc++[x]):=by
    rw [wK_ rfl (gw_ (hm x (by simp)) ha)]
    have:=h x (by simp)
    rw [decide_eq_false (by omega)];rfl
   rw [List.foldl_cons,e,WQ_ ha (fun y hy=>hm y (List.mem_cons_of_mem _ hy)) fun y hy=>h y (List.mem_cons_of_mem _ hy),List.append_assoc];rfl
def HL_ (a:AC) (s:Bool × List AC):List AC:=if s.1=true then s.2 else s.2++[a]
theorem yn_ {a:AC} (ha:Zv_ a=true):∀ {l acc:List AC},setM l->HL_ a (l.foldl (stp a) (false,acc))=acc++jM_ a l
 | [],acc,_=>rfl
 | x :: r,acc,h=>by
   obtain ⟨h1,h2⟩:=List.pairwise_cons.1 h.s
   have hx:=h.m x (by simp)
   have hr:setM r:=⟨fun y hy=>h.m y (List.mem_cons_of_mem _ hy),h2⟩
   have hA:Q5_ x a=decide (kyA x < kyA a):=by unfold Q5_;exact decide_eq_decide.2 (ub_ hx ha)
   rw [List.foldl_cons,wK_ hA (gw_ hx ha)]
   show _=acc++(if kyA x < kyA a then x :: jM_ a r else if kyA x=kyA a then a :: r else a :: x :: r)
   by_cases c1:kyA x < kyA a
   ·rw [decide_eq_true c1,decide_eq_false (show ¬ kyA x=kyA a by omega),if_pos c1]
    show HL_ a (r.foldl (stp a) (false,acc++[x]))=_
    rw [yn_ ha hr,List.append_assoc];rfl
   ·rw [decide_eq_false c1,if_neg c1]
    by_cases c2:kyA x=kyA a
    ·rw [decide_eq_true c2,if_pos c2]
     show HL_ a (r.foldl (stp a) (true,acc++[a]++[]))=_
     rw [WQ_ ha hr.m fun y hy=>c2 ▸ h1 y hy,List.append_nil,List.append_assoc];rfl
    ·rw [decide_eq_false c2,if_neg c2]
     show HL_ a (r.foldl (stp a) (true,acc++[a]++[x]))=_
     rw [WQ_ ha hr.m fun y hy=>by have:=h1 y hy;omega,List.append_assoc,List.append_assoc];rfl
theorem Go_ {out:List AC} {a:AC} (h:setM out) (ha:Zv_ a=true):Ke_ out a=jM_ a out:=by
 have:=yn_ ha (acc:=[]) h
 rw [List.nil_append] at this
 exact this
theorem uB_:∀ {l u:List AC},setM u->GK_ l->setM (l.foldl qg_ u)/\l.foldl qg_ u=l.foldl (fun z a=>jM_ a z) u/\l.foldl Ke_ u=l.foldl qg_ u
 | [],u,h,_=>⟨h,rfl,rfl⟩
 | a :: r,u,h,hl=>by
   have ha:=hl a (by simp)
   have e1:=Gp_ (out:=u) h.m ha
   have e2:=Go_ (out:=u) h ha
   have h1:=hu_ h ha
   have hi:=uB_ (l:=r) h1 fun x hx=>hl x (List.mem_cons_of_mem _ hx)
   rw [List.foldl_cons,List.foldl_cons,List.foldl_cons,e1,e2]
   exact hi
theorem He_ {u l:List AC}:wok u l=true ↔ setM u/\GK_ l:=by
 unfold wok
 rw [Bool.and_eq_true,Bool.not_eq_true',List.any_eq_false]
 constructor
 ·rintro ⟨h1,h2⟩;exact ⟨bx_ h1,fun x hx=>by have:=h2 x hx;simpa using this⟩
 ·rintro ⟨h1,h2⟩;exact ⟨bv_ h1,fun x hx=>by rw [h2 x hx];decide⟩
theorem b1_ (u l:List AC):wtR u l=wtL u l:=by
 unfold wtR wtL
 by_cases h:wok u l=true
 ·rw [if_pos h,if_pos h]
  obtain ⟨h1,h2⟩:=He_.1 h
  exact (uB_ h1 h2).2.2
 ·rw [if_neg h,if_neg h]
def A3:AC:=(0,3,0,(0,0,false,0,[],[],()),[],())
def A4:AC:=(0,4,0,(0,0,false,0,[],[],()),[],())
def A18:AC:=(18,0,0,(0,0,false,0,[],[],()),[],())
def A22:AC:=(22,9,0,(0,0,false,0,[],[],()),[],())
def A0:AC:=(0,0,0,(0,0,false,0,[],[],()),[],())
theorem Bv_:wtL [] [A3,A18,A4]=[A18,A4]/\wtE [] [A3,A18,A4]=0/\wtL [A18,A4] [A22]=[A18,A22,A4]/\wtE [A18,A4] [A22]=0/\wtE [] [A0]=10001:=by decide+kernel
theorem Bu_:VK_ [A18,A22,A4]=[A18,A22]/\Gv_ [A18,A4]=false/\Gv_ [A18]=true:=by decide+kernel
theorem jH_ {l:List AC} (h:∀ x ∈ l,fwA x=true) (hn:l.length<=80):okL l:=(vT_ (by unfold vU_;rw [List.all_eq_true.2 h,Bool.true_and];exact decide_eq_true hn)).1
theorem Bt_:okL []/\okL [A3,A18,A4]/\okL [A18,A4]/\okL [A22]/\okL [A0]/\okL [A18,A22,A4]/\okL [A18]:=
 ⟨jH_ (by decide) (by decide),jH_ (by decide) (by decide),jH_ (by decide) (by decide),jH_ (by decide) (by decide),jH_ (by decide) (by decide),jH_ (by decide) (by decide),jH_ (by decide) (by decide)⟩
def ut_:IR:=
(sq (kr [] [oD 0 (.mov cF)])
(sq (kr [] [oD 8 (.build [.int .i64 0,.int .u64 0,.int .u64 0,.int .i64 0,.int .i64 0,.kb false,.int .u64 0,.imm (.int .u8) [],.imm (.int .u8) [],.imm (.int .u8) []] [(1,1,(.c (.int .u64 3)))]),
oD 9 (.build [.int .i64 0,.int .u64 0,.int .u64 0,.int .i64 0,.int .i64 0,.kb false,.int .u64 0,.imm (.int .u8) [],.imm (.int .u8) [],.imm (.int .u8) []] [(0,1,(cI 18))]),
oD 10 (.build [.int .i64 0,.int .u64 0,.int .u64 0,.int .i64 0,.int .i64 0,.kb false,.int .u64 0,.imm (.int .u8) [],.imm (.int .u8) [],.imm (.int .u8) []] [(1,1,(.c (.int .u64 4)))]),
oD 11 (.sliceAll Y2 3 [(0,10,8),(10,10,9),(20,10,10)]),
oC 12 6 [(.c (.imm Y2 [])),11],
oM 7 12,
oX 13 7 0,
oX 14 7 1,
oM 1 13,
oM 2 14])
(sq (kr [1,2] [oM 16 1,
oD 17 (.build [.int .i64 0,.int .u64 0,.int .u64 0,.int .i64 0,.int .i64 0,.kb false,.int .u64 0,.imm (.int .u8) [],.imm (.int .u8) [],.imm (.int .u8) []] [(0,1,(cI 22)),(1,1,(.c (.int .u64 9)))]),
oD 18 (.sliceAll Y2 1 [(0,10,17)]),
oC 19 6 [16,18],
oM 15 19,
oX 20 15 0,
oX 21 15 1,
oM 3 20,
oM 4 21])
(sq (kr [1,2,3,4] [oD 23 (.build [.int .i64 0,.int .u64 0,.int .u64 0,.int .i64 0,.int .i64 0,.kb false,.int .u64 0,.imm (.int .u8) [],.imm (.int .u8) [],.imm (.int .u8) []] []),
oD 24 (.sliceAll Y2 1 [(0,10,23)]),
oC 25 6 [(.c (.imm Y2 [])),24],
oM 22 25,
oX 26 22 0,
oX 27 22 1,
oM 5 26,
oM 6 27])
(sq (kd [1,2,3,4,6] [(oM 28 2,[]),
(oB 29 .eql 28 (cI 0),[]),
(oM 30 29,[]),
(oT 30 31 (.mov 1),[]),
(oT 30 32 (.build [.int .i64 0,.int .u64 0,.int .u64 0,.int .i64 0,.int .i64 0,.kb false,.int .u64 0,.imm (.int .u8) [],.imm (.int .u8) [],.imm (.int .u8) []] [(0,1,(cI 18))]),[0]),
(oT 30 33 (.build [.int .i64 0,.int .u64 0,.int .u64 0,.int .i64 0,.int .i64 0,.kb false,.int .u64 0,.imm (.int .u8) [],.imm (.int .u8) [],.imm (.int .u8) []] [(1,1,(.c (.int .u64 4)))]),[0,0]),
(oT 30 34 (.sliceAll Y2 2 [(0,10,32),(10,10,33)]),[2]),
(oT 30 35 (.call false (.f 8) [31,34]),[]),
(oP 36 30 35 cF,[]),
(oM 37 36,[]),
(oT 37 38 (.mov 4),[]),
(oT 37 39 (.bin .eql 38 (cI 0)),[]),
(oP 40 37 39 cF,[]),
(oM 41 40,[]),
(oT 41 42 (.mov 3),[]),
(oT 41 43 (.len 42),[]),
(oT 41 44 (.bin .eql 43 (cI 3)),[]),
(oP 45 41 44 cF,[]),
(oM 46 45,[]),
(oT 46 47 (.mov 3),[]),
(oT 46 48 (.call false (.f 10) [47]),[]),
(oT 46 49 (.mov 3),[0,0]),
(oT 46 50 (.slice 10 49 none (some (cI 2)) none),[1,0]),
(oT 46 51 (.call false (.f 8) [48,50]),[]),
(oP 52 46 51 cF,[]),
(oM 53 52,[]),
(oT 53 54 (.mov 1),[]),
(oT 53 55 (.call false (.f 11) [54]),[]),
(oT 53 56 (.un .not 55),[]),
(oP 57 53 56 cF,[]),
(oM 58 57,[]),
(oT 58 59 (.mov 1),[]),
(oT 58 60 (.slice 10 59 none (some (cI 1)) none),[]),
(oT 58 61 (.call false (.f 11) [60]),[]),
(oP 62 58 61 cF,[]),
(oM 63 62,[]),
(oT 63 64 (.mov 6),[]),
(oT 63 65 (.bin .eql 64 (cI 10001)),[]),
(oP 66 63 65 cF,[]),
(oM 0 66,[])])
.ret)))))
def VG_:List RD:=[.tmp 0 true none]
theorem VZ_:zl_ Tryz.prog Tryz.f5 ut_ VG_=true:=by kernel_rfl
def j3_:List AV->List Obj->Option (Prop × AV)
 | [],[]=>some ((True,.bool true))
 | _,_=>none
theorem Yo_:zf_ Tryz.prog 5 (RoF j3_).sum:=by
 refine zi_ Tryz.func5 VZ_ (zc_ (s:=RoF qu_) kf_ (zc_ (s:=RoF kT_) Jg_ (zc_ (s:=RoF Q9_) Wa_ (zc_ (s:=RoF QD_) J0_ (ze_ _))))) fun args objs p v e=>?_
 unfold j3_ at e
 split at e
 ·cases e
  refine ⟨rfl,fun hw ho hp=>?_⟩
  clear hw ho
  obtain ⟨w1,w2,w3,w4,w5⟩:=Bv_
  obtain ⟨w6,w7,w8⟩:=Bu_
  obtain ⟨k1,k2,k3,k4,k5,k6,k7⟩:=Bt_
  unfold A3 A4 A18 A22 A0 at*
  repeat'(intro t ht;first|(cases t<;>first|(cases ht;done)|(try simp only[zh_]at ht))|((first|refine za_ ht ?_|refine ht ?_ ?_|refine ht.1 ?_ ?_|refine ht ?_)<;>clear ht))
  all_goals (try simp only [w1,w2,w3,w4,w5,w6,w7,w8,List.length_cons,List.length_nil,reduceCtorEq,not_true_eq_false] at*)
  all_goals first
   | exact True.intro
   | contradiction
   | exact ⟨k1,k2,by decide,by decide⟩
   | exact ⟨k3,k4,by decide,by decide⟩
   | exact ⟨k1,k5,by decide,by decide⟩
   | exact k6
   | exact k3
   | exact k7
   | exact (by decide)
   | omega
   | exact ⟨rfl,by first | rfl | exact True.intro⟩
 ·cases e
def ji_:IR:=
(sq (kr [0,1] [oD 4 (.mov cF)])
(sq (sq (kr [0,1] [oM 9 0,
oC 10 4 [9],
oD 11 (.un .not 10),
oM 12 11,
oF 12 13 (.mov 1),
oF 12 14 (.call false (.f 4) [13]),
oF 12 15 (.un .not 14),
oP 16 12 cT 15])
(.cond 16
(sq (kr [] [oC 17 5 [],
oM 4 17])
.ret)
.skip))
(sq (kr [0,1] [oM 19 0,
oM 20 1,
oC 21 6 [19,20],
oM 18 21,
oX 22 18 0,
oX 23 18 1,
oM 5 22,
oM 6 23])
(sq (kr [0,1,5,6] [oM 25 0,
oM 26 1,
oC 27 7 [25,26],
oM 24 27,
oX 28 24 0,
oX 29 24 1,
oM 7 28,
oM 8 29])
(sq (kr [5,6,7,8] [oM 30 5,
oM 31 7,
oC 32 8 [30,31],
oM 33 32,
oT 33 34 (.mov 6),
oT 33 35 (.mov 8),
oT 33 36 (.bin .eql 34 35),
oP 37 33 36 cF,
oM 38 37,
oT 38 39 (.call false (.f 5) []),
oP 40 38 39 cF,
oM 4 40])
.ret)))))
def je_:List RD:=[.tmp 4 true none]
theorem jf_:zl_ Tryz.prog Tryz.f3 ji_ je_=true:=by kernel_rfl
def qc_:List AV->List Obj->Option (Prop × AV)
 | [.imm ty0 u,.imm ty1 l],[]=>Zj_ ty0 Y2 u fun u=>Zj_ ty1 Y2 l fun l=>some ((True,.bool true))
 | _,_=>none
theorem Kj_:zf_ Tryz.prog 3 (RoF qc_).sum:=by
 refine zi_ Tryz.func3 jf_ (zc_ (s:=RoF wA_) Vh_ (zc_ (s:=RoF j3_) Yo_ (zc_ (s:=RoF qu_) kf_ (zc_ (s:=RoF KD_) Xr_ (zc_ (s:=RoF kT_) Jg_ (ze_ _)))))) fun args objs p v e=>?_
 unfold qc_ at e
 split at e
 ·rename_i ty0 u ty1 l
  obtain rfl:=zz_ e
  replace e:=zA_ e
  obtain rfl:=zz_ e
  replace e:=zA_ e
  cases e
  refine ⟨rfl,fun hw ho hp=>?_⟩
  change List AC at u
  change List AC at l
  clear hw ho
  cases hf:vU_ u with
  | false=>
    repeat'(intro t ht;first|(cases t<;>first|(cases ht;done)|(try simp only[zh_]at ht;try(exfalso;first|contradiction|omega)))|((first|refine za_ ht ?_|refine ht ?_ ?_|refine ht.1 ?_ ?_|refine ht ?_)<;>clear ht))
    all_goals first
     | exact True.intro
     | exact ⟨rfl,by first | rfl | exact True.intro⟩
     | (exfalso;rw [hf] at*;contradiction)
  | true=>
    cases hg:vU_ l with
    | false=>
      repeat'(intro t ht;first|(cases t<;>first|(cases ht;done)|(try simp only[zh_]at ht;try(exfalso;first|contradiction|omega)))|((first|refine za_ ht ?_|refine ht ?_ ?_|refine ht.1 ?_ ?_|refine ht ?_)<;>clear ht))
      all_goals first
       | exact True.intro
       | exact ⟨rfl,by first | rfl | exact True.intro⟩
       | (exfalso;rw [hf] at*;contradiction)
       | (exfalso;rw [hg] at*;contradiction)
    | true=>
      obtain ⟨hok1,hl1⟩:=vT_ hf
      obtain ⟨hok2,hl2⟩:=vT_ hg
      have hq:=b1_ u l
      have hd:decide (wtL u l=wtR u l)=true:=decide_eq_true hq.symm
      repeat'(intro t ht;first|(cases t<;>first|(cases ht;done)|(try simp only[zh_]at ht;try(exfalso;first|contradiction|omega)))|((first|refine za_ ht ?_|refine ht ?_ ?_|refine ht.1 ?_ ?_|refine ht ?_)<;>clear ht))
      all_goals first
       | exact True.intro
       | exact ⟨hok1,hok2,Nat.le_trans hl1 (by decide),Nat.le_trans hl2 (by decide)⟩
       | exact ⟨rfl,by first | rfl | exact True.intro⟩
       | (exfalso;rw [hf] at*;contradiction)
       | (exfalso;rw [hg] at*;contradiction)
       | exact absurd hq.symm ht
 ·cases e
end Go.Eng
