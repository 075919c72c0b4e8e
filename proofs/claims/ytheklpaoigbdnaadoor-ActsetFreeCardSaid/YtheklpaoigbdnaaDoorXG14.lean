/- Parts of the proof: U5, U4, U6, U9, U7, UA, UB, UC. No condition. -/
import Derived.Test.YtheklpaoigbdnaaDoorProg
import Derived.Test.YtheklpaoigbdnaaDoorXG11
import Derived.KernelRfl
import Derived.Test.YtheklpaoigbdnaaDoorXG13
namespace Go.Eng
open Go.Proofs
set_option linter.unusedVariables false
set_option linter.unusedSimpArgs false
set_option maxRecDepth 100000
set_option maxHeartbeats 1000000
theorem Kk_ {α:Type} (p:α->Bool) (d:α):∀ (l:List α) (i:Int),(ZG_ p l i=-1/\∀ x ∈ l,p x=false)\/∃ k,k < l.length/\ZG_ p l i=i+k/\p (l.getD k d)=true/\∀ x ∈ l.take k,p x=false
 | [],i=>.inl ⟨rfl,fun x h=>absurd h List.not_mem_nil⟩
 | o :: r,i=>by
   by_cases h:p o=true
   ·refine .inr ⟨0,by simp,?_,h,fun x hx=>absurd hx List.not_mem_nil⟩
    show (if p o=true then i else ZG_ p r (i+1))=_
    rw [if_pos h];simp
   ·have e:ZG_ p (o :: r) i=ZG_ p r (i+1):=if_neg h
    have h0:p o=false:=by simpa using h
    rw [e]
    rcases Kk_ p d r (i+1) with ⟨h1,h2⟩ | ⟨k,h1,h2,h3,h4⟩
    ·refine .inl ⟨h1,fun x hx=>?_⟩
     rcases List.mem_cons.1 hx with rfl | hx
     ·exact h0
     ·exact h2 x hx
    ·refine .inr ⟨k+1,by simpa using h1,by rw [h2];omega,h3,fun x hx=>?_⟩
     rw [List.take_succ_cons] at hx
     rcases List.mem_cons.1 hx with rfl | hx
     ·exact h0
     ·exact h4 x hx
def Xl_ (a:AC):Bool:=!decide (a.1=0)
def dlA (l:List AC):List AC:=l.filter Xl_
theorem VP_ {l:List AC} (h:∀ x ∈ l,decide (x.1=0)=false):dlA l=l:=List.filter_eq_self.2 fun x hx=>by unfold Xl_;rw [h x hx];rfl
theorem WT_ {l:List AC} {i:Nat} {d:AC} (h:i < l.length):dlA (l.take (i+1))=dlA (l.take i)++(if (l.getD i d).1=0 then [] else [l.getD i d]):=by
 unfold dlA
 rw [<- Kh_ (d:=d) h,List.filter_append]
 congr 1
 by_cases e:(l.getD i d).1=0
 ·rw [if_pos e,List.filter_cons_of_neg (by unfold Xl_;rw [decide_eq_true e];decide)];rfl
 ·rw [if_neg e,List.filter_cons_of_pos (by unfold Xl_;rw [decide_eq_false e];rfl)];rfl
theorem VO_ (l:List AC):(dlA l).length<=l.length:=List.length_filter_le _ _
structure DlJ (l:List AC) (p:Nat × List AC):Prop where
 a:p.1<=l.length
 b:p.2.length=l.length
 c:p.2.drop p.1=l.drop p.1
 d:p.2.take (dlA (l.take p.1)).length=dlA (l.take p.1)
 e:(dlA (l.take p.1)).length < p.1
theorem hS_ {l:List AC} {k:Nat} {d:AC} (hk:k < l.length) (h:(l.getD k d).1=0) (ha:∀ x ∈ l.take k,decide (x.1=0)=false):DlJ l (k+1,l)/\(dlA (l.take (k+1))).length=k:=by
 have e:dlA (l.take (k+1))=l.take k:=by rw [WT_ (d:=d) hk,if_pos h,List.append_nil,VP_ ha]
 have e2:(l.take k).length=k:=by rw [List.length_take];omega
 exact ⟨⟨hk,rfl,rfl,by show l.take (dlA (l.take (k+1))).length=_;rw [e,e2],by show (dlA (l.take (k+1))).length < _;rw [e,e2];exact Nat.lt_succ_self k⟩,by rw [e,e2]⟩
theorem GY_ {l:List AC} {p:Nat × List AC} {d:AC} (h:DlJ l p) (hl:p.1 < l.length):p.2.getD p.1 d=l.getD p.1 d:=by
 have e:∀ x:List AC,x.getD p.1 d=(x.drop p.1).getD 0 d:=fun x=>by rw [List.getD_eq_getElem?_getD,List.getD_eq_getElem?_getD,List.getElem?_drop];rfl
 rw [e,h.c,<- e]
theorem g1_ {l:List AC} {p:Nat × List AC} {d:AC} (h:DlJ l p) (hl:p.1 < l.length) (h0:(l.getD p.1 d).1=0):DlJ l (p.1+1,p.2)/\dlA (l.take (p.1+1))=dlA (l.take p.1):=by
 have e:dlA (l.take (p.1+1))=dlA (l.take p.1):=by rw [WT_ (d:=d) hl,if_pos h0,List.append_nil]
 refine ⟨⟨hl,h.b,?_,?_,?_⟩,e⟩
 ·show p.2.drop (p.1+1)=l.drop (p.1+1)
  rw [<- List.drop_drop,h.c,List.drop_drop]
 ·show p.2.take (dlA (l.take (p.1+1))).length=_;rw [e];exact h.d
 ·show (dlA (l.take (p.1+1))).length < p.1+1;rw [e];have:=h.e;omega
theorem g2_ {l:List AC} {p:Nat × List AC} {d:AC} (h:DlJ l p) (hl:p.1 < l.length) (h0:¬ (l.getD p.1 d).1=0):DlJ l (p.1+1,p.2.set (dlA (l.take p.1)).length (l.getD p.1 d))/\(dlA (l.take (p.1+1))).length=(dlA (l.take p.1)).length+1:=by
 have e:dlA (l.take (p.1+1))=dlA (l.take p.1)++[l.getD p.1 d]:=by rw [WT_ (d:=d) hl,if_neg h0]
 have e2:(dlA (l.take (p.1+1))).length=(dlA (l.take p.1)).length+1:=by rw [e,List.length_append];rfl
 have h1:=h.e
 have h2:=h.b
 refine ⟨⟨hl,?_,?_,?_,?_⟩,e2⟩
 ·show (p.2.set _ _).length=_;rw [List.length_set];exact h.b
 ·show (p.2.set _ _).drop (p.1+1)=l.drop (p.1+1)
  rw [List.drop_set_of_lt (by omega),<- List.drop_drop,h.c,List.drop_drop]
 ·show (p.2.set _ _).take (dlA (l.take (p.1+1))).length=_
  rw [e2,e,List.take_set,List.take_succ_eq_append_getElem (by omega),List.set_append_right _ _ (by rw [List.length_take];omega),h.d]
  congr 1
  rw [Nat.sub_self];rfl
 ·show (dlA (l.take (p.1+1))).length < p.1+1;rw [e2];omega
theorem GZ_ {l:List AC} {p:Nat × List AC} {z:AC} (h:DlJ l p) (hl:l.length<=p.1):
 p.2.take ((((dlA (l.take p.1)).length:Nat):Int)).toNat++List.replicate ((p.2.length:Int) - ((dlA (l.take p.1)).length:Nat)).toNat z++p.2.drop (((((dlA (l.take p.1)).length:Nat):Int)).toNat+((p.2.length:Int) - ((dlA (l.take p.1)).length:Nat)).toNat)=dlA l++List.replicate (l.length - (dlA l).length) z/\
 ((dlA l++List.replicate (l.length - (dlA l).length) z).drop 0).take ((((dlA (l.take p.1)).length:Nat):Int) - 0).toNat=dlA l/\l.take p.1=l:=by
 have e:=List.take_of_length_le (l:=l) hl
 have h1:=h.d
 have h2:=h.b
 have h3:=VO_ l
 rw [e] at h1 ⊢
 refine ⟨?_,?_,rfl⟩
 ·rw [Int.toNat_natCast,h1,show ((p.2.length:Int) - ((dlA l).length:Nat)).toNat=l.length - (dlA l).length by omega,List.drop_of_length_le (by omega),List.append_nil]
 ·rw [List.drop_zero,List.take_append_of_le_length (by omega),List.take_of_length_le (by omega)]
def ZF_:IR:=
(sq (kr [0,1] [oD 4 (.mov (.c (.imm Y2 [])))])
(sq (.reg [oM 8 0,
oM 9 1,
oC 10 19 [8,9],
oM 5 10])
(sq (sq (.reg [oM 11 5,
oB 12 .eql 11 (cI (-1))])
(.cond 12
(sq (kr [0] [oM 13 0,
oM 4 13])
.ret)
.skip))
(sq (sq (kr [0,1,5] [oM 14 5,
oB 15 .add 14 (cI 1),
oM 6 15])
(.block 0
(.loop
(sq (sq (kr [0,1,5,6] [oM 16 6,
oM 17 0,
oE 18 17,
oB 19 .lss 16 18])
(.cond 19
.skip
(.exit 0)))
(sq (.block 1
(sq (kr [0,1,5,6] [oM 22 0,
oM 23 6,
oI 24 10 22 23,
oK 25 10 24,
oD 7 (.box [.int .i64 0,.int .u64 0,.int .u64 0,.int .i64 0,.int .i64 0,.kb false,.int .u64 0,.imm (.int .u8) [],.imm (.int .u8) [],.imm (.int .u8) []]),
oS 10 7 25])
(sq (.reg [oM 26 1,
oK 27 10 7,
oD 28 (.call false 26 [27]),
oD 29 (.un .not 28)])
(.cond 29
(sq (kr [0,1,5,6,7] [oM 30 0,
oM 31 5,
oK 32 10 7,
oI 33 10 30 31,
oS 10 33 32])
(.reg [oM 34 5,
oB 35 .add 34 (cI 1),
oM 5 35]))
.skip))))
(kr [0,1,5,6] [oM 20 6,
oB 21 .add 20 (cI 1),
oM 6 21]))))))
(sq (kr [0,5] [oM 36 0,
oM 37 5,
oD 38 (.slice 10 36 (some 37) none none),
oN (.clr Y2 ((0:Int),((0:Int),((0:Int),(((0:Int),((0:Int),(false,((0:Int),(([]:List (Ty.den (.int .u8))),(([]:List (Ty.den (.int .u8))),())))))),(([]:List (Ty.den (.int .u8))),()))))) 38)])
(sq (.reg [oM 39 0,
oM 40 5,
oD 41 (.slice 10 39 none (some 40) none),
oM 4 41])
.ret))))))
def ZD_:List RD:=[.tmp 4 true (some Y2)]
theorem ZE_:zs_ Tryd.prog Tryd.f26 ZF_ ZD_=true:=by kernel_rfl
def zD_:List AV->List Obj->Option (Prop × AV × List Obj)
 | [.own 0,.fn 27 [] []],[.row false ty0 l]=>z8_ ty0 Y2 l fun l=>some (((l:List AC).length<=1000000,.imm Y2 (dlA l),[.row true Y2 (dlA l++List.replicate ((l:List AC).length - (dlA l).length) ((Ty.dflt Y2):AC))]))
 | _,_=>none
theorem Zw_:zg_ Tryd.prog 26 (RwF zD_).sum:=by
 refine y5_ Tryd.func26 ZE_ (zc_ (s:=RoF Ze_) Z5_ (zc_ (s:=RoF zk_) zA_ (ze_ _))) fun args objs p v o e=>?_
 unfold zD_ at e
 split at e
 ·rename_i ty0 l
  obtain rfl:=zy_ e
  replace e:=zz_ e
  cases e
  refine ⟨rfl,fun hw ho hp=>?_⟩
  change List AC at l
  clear hw ho
  have hdl:=VO_ l
  rcases Kk_ (fun a:AC=>decide (a.1=0)) (Ty.dflt Y2) l 0 with ⟨y1,y2⟩ | ⟨k,y1,y2,y3,y4⟩
  ·have e1:=VP_ y2
   repeat'(intro t ht;first|(cases t<;>first|(cases ht;done)|(try simp only[zh_]at ht;try(exfalso;first|contradiction|omega)))|((first|refine zb_ ht ?_|refine ht ?_ ?_|refine ht.1 ?_ ?_|refine ht ?_)<;>clear ht))
   all_goals first
    | exact True.intro
    | exact hp
    | omega
    | (rw [e1,Nat.sub_self];exact ⟨rfl,by rw [List.replicate_zero,List.append_nil]⟩)
  ·rw [Int.zero_add] at y2
   obtain ⟨j1,j2⟩:=hS_ y1 (of_decide_eq_true y3) y4
   repeat'(intro t ht;first|(cases t<;>first|(cases ht;done)|(try simp only[zh_]at ht;try(exfalso;first|contradiction|omega)))|((first|refine zb_ ht ?_|refine ht ?_ ?_|refine ht.1 ?_ ?_|refine ht ?_)<;>clear ht))
   all_goals first
    | exact True.intro
    | exact hp
    | omega
    | (simp only [zv_];omega)
    | (intro r h1 h2;clear h1;refine h2 ⟨[0,1,5,6],(Nat × List AC),(DlJ l),fun p=>[.own 0,.fn 27 [] [],.int .i64 ((dlA (l.take p.1)).length:Nat),.int .i64 (p.1:Nat)],fun p=>[.row false Y2 p.2],fun p=>l.length - p.1,⟨(k+1,l),j1,(by show [AV.own 0,AV.fn 27 [] [],AV.int .i64 (ZG_ (fun a:AC=>decide (a.1=0)) l 0),AV.int .i64 (ZG_ (fun a:AC=>decide (a.1=0)) l 0+1)]=[AV.own 0,AV.fn 27 [] [],AV.int .i64 ((dlA (l.take (k+1))).length:Nat),AV.int .i64 ((k+1:Nat):Int)];rw [y2,j2];rfl),rfl⟩,?_⟩;clear h2)
   rintro ⟨j,s⟩ hj
   have b1:=hj.b
   have b2:=hj.e
   have b3:=hj.a
   dsimp only at b1 b2 b3
   have hg:=fun h=>GY_ (d:=(Ty.dflt Y2)) hj h
   have hs1:=fun h h0=>g1_ (d:=(Ty.dflt Y2)) hj h h0
   have hk1:=fun h h0=>g2_ (d:=(Ty.dflt Y2)) hj h h0
   have he1:=fun h z=>GZ_ (z:=z) hj h
   dsimp only at hg hs1 hk1 he1
   repeat'(intro t ht;first|(cases t<;>first|(cases ht;done)|(try simp only[zh_]at ht;try(exfalso;first|contradiction|omega)))|((first|refine zb_ ht ?_|refine ht ?_ ?_|refine ht.1 ?_ ?_|refine ht ?_)<;>clear ht))
   all_goals (try dsimp only)
   all_goals first
    | exact True.intro
    | omega
    | (simp only [zv_];omega)
    | (constructor<;>omega)
    | (simp only [List.length_append,List.length_take,List.length_drop,List.length_replicate];omega)
    | (obtain ⟨f1,f2,f3⟩:=he1 (by omega) (Ty.dflt Y2)
       exact ⟨congrArg (AV.imm Y2) ((congrArg (fun z=>(z.drop 0).take ((((dlA (l.take j)).length:Nat):Int) - 0).toNat) f1).trans f2),congrArg (fun z=>[Obj.row true Y2 z]) f1⟩)
    | (have q1:j < l.length:=by omega
       have q2:=hg q1
       first
        | (have q3:=hs1 q1 (by rw [<- q2];exact ht)
           exact ⟨(j+1,s),q3.1,by dsimp only;omega,by dsimp only;rw [q3.2];rfl,rfl⟩)
        | (have q3:=hk1 q1 (by rw [<- q2];exact ht)
           refine ⟨(j+1,_),q3.1,by dsimp only;omega,by dsimp only;rw [q3.2];rfl,?_⟩
           dsimp only;rw [<- q2];rfl))
 ·cases e
theorem Uz_ {α:Type} {l q:List α} {n a b c d e f:Nat} (hq:q.length=1) (hn:n < l.length) (ha:a=n+1) (hb:b=n) (hc:l.length - n<=c) (hd:1<=d) (he:e=n) (hf:f=n+1):
 (l.take a++(l.drop b).take c).take e++q.take d++(l.take a++(l.drop b).take c).drop f=l.take n++q++l.drop n:=by
 rw [ha,hb,he,hf]
 have h1:(l.drop n).take c=l.drop n:=List.take_of_length_le (by rw [List.length_drop];exact hc)
 have h2:q.take d=q:=List.take_of_length_le (by omega)
 have h3:(l.take (n+1)).length=n+1:=by rw [List.length_take];omega
 rw [h1,h2,List.take_append_of_le_length (by omega),List.take_take,Nat.min_eq_left (by omega),List.drop_append_of_le_length (by omega),List.drop_of_length_le (by omega),List.nil_append]
theorem UA_ {α:Type} {l q:List α} {z:α} {n a b c d e f g g' r k:Nat} (hq:q.length=1) (hn:n < l.length) (ha:a=n) (hb:b=n) (hc:1<=c) (hd:d=n+1) (he:e=n+1) (hf:f=n) (hg':l.length - n<=g') (hg:l.length - n<=g) (hr:l.length+1 - n=r) (hk:l.length+1<=k):
 ((l.take a++List.replicate r z).take b++q.take c++(l.take a++List.replicate r z).drop d).take e++((l.drop f).take g').take g++((l.take a++List.replicate r z).take b++q.take c++(l.take a++List.replicate r z).drop d).drop k=l.take n++q++l.drop n:=by
 rw [ha,hb,hd,he,hf]
 have h2:q.take c=q:=List.take_of_length_le (by omega)
 have h3:(l.take n).length=n:=by rw [List.length_take];omega
 have h4:((l.drop n).take g').take g=l.drop n:=by
  rw [List.take_of_length_le (l:=l.drop n) (by rw [List.length_drop];exact hg'),List.take_of_length_le (by rw [List.length_drop];exact hg)]
 have h5:(l.take n++q).length=n+1:=by rw [List.length_append];omega
 have h6:(l.take n++List.replicate r z).take n=l.take n:=by
  rw [List.take_append_of_le_length (by omega),List.take_take,Nat.min_self]
 rw [h2,h4,h6,List.take_append_of_le_length (by omega),List.take_of_length_le (l:=l.take n++q) (by omega),List.drop_of_length_le (i:=k),List.append_nil]
 rw [List.length_append,h5,List.length_drop,List.length_append,h3,List.length_replicate];omega
def qb_:IR:=
(sq (kr [0,1,2] [oD 6 (.mov (.c (.imm Y2 [])))])
(sq (.reg [oM 10 0,
oM 11 1,
oD 12 (.slice 10 10 (some 11) none none)])
(sq (.reg [oM 13 2,
oE 14 13,
oM 7 14])
(sq (sq (kr [0,1,2,7] [oM 15 7,
oB 16 .eql 15 (cI 0)])
(.cond 16
(sq (.reg [oM 17 0,
oM 6 17])
.ret)
.skip))
(sq (.reg [oM 18 0,
oE 19 18,
oM 8 19])
(sq (sq (kr [0,1,2,7,8] [oM 20 1,
oM 21 8,
oB 22 .eql 20 21])
(.cond 22
(sq (.reg [oM 23 0,
oM 24 2,
oD 25 (.append Y2 128 23 24),
oM 6 25])
.ret)
.skip))
(sq (sq (kr [0,1,2,7,8] [oM 26 8,
oM 27 7,
oB 28 .add 26 27,
oM 29 0,
oD 30 (.capp 29),
oB 31 .gtr 28 30])
(.cond 31
(sq (kr [0,1,2,7,8] [oM 32 0,
oM 33 1,
oD 34 (.sliceP 10 32 none (some 33)),
oM 35 8,
oM 36 7,
oB 37 .add 35 36,
oM 38 1,
oB 39 .sub 37 38,
oD 40 (.appendzP Y2 128 ((0:Int),((0:Int),((0:Int),(((0:Int),((0:Int),(false,((0:Int),(([]:List (Ty.den (.int .u8))),(([]:List (Ty.den (.int .u8))),())))))),(([]:List (Ty.den (.int .u8))),()))))) 34 39),
oM 9 40])
(sq (kr [0,1,2,7,9] [oM 41 9,
oM 42 1,
oD 43 (.slice 10 41 (some 42) none none),
oM 44 2,
oD 45 (.copy Y2 43 44)])
(sq (kd [0,1,7,9] [(oM 46 9,[]),
(oM 47 1,[0]),
(oM 48 7,[0,0]),
(oB 49 .add 47 48,[2]),
(oD 50 (.slice 10 46 (some 49) none none),[]),
(oM 51 0,[0,0,0,0,0]),
(oM 52 1,[0,0,0,0,0,0]),
(oD 53 (.slice 10 51 (some 52) none none),[2,0,0,0,0]),
(oD 54 (.copy Y2 50 53),[])])
(sq (kr [9] [oM 55 9,
oM 6 55])
.ret))))
.skip))
(sq (kr [0,1,2,7,8] [oM 56 0,
oM 57 8,
oM 58 7,
oB 59 .add 57 58,
oD 60 (.sliceX 10 56 59),
oM 0 60])
(sq (sq (kr [0,1,2,7,8] [oM 61 2,
oM 62 0,
oM 63 1,
oM 64 7,
oB 65 .add 63 64,
oD 66 (.sliceP 10 62 (some 65) none),
oD 67 (.ovl 33 61 66),
oD 68 (.un .not 67)])
(.cond 68
(sq (kd [0,1,2,7] [(oM 69 0,[]),
(oM 70 1,[0]),
(oM 71 7,[0,0]),
(oB 72 .add 70 71,[2]),
(oD 73 (.sliceP 10 69 (some 72) none),[]),
(oM 74 0,[0,0,0,0,0]),
(oM 75 1,[0,0,0,0,0,0]),
(oD 76 (.sliceP 10 74 (some 75) none),[2,0,0,0,0]),
(oD 77 (.copyP Y2 73 76),[])])
(sq (kr [0,1,2] [oM 78 0,
oM 79 1,
oD 80 (.slice 10 78 (some 79) none none),
oM 81 2,
oD 82 (.copy Y2 80 81)])
(sq (.reg [oM 83 0,
oM 6 83])
.ret)))
.skip))
(sq (kr [0,1,2,7,8] [oM 84 0,
oM 85 8,
oD 86 (.slice 10 84 (some 85) none none),
oM 87 2,
oD 88 (.copy Y2 86 87)])
(sq (kr [0,1,7] [oM 89 0,
oM 90 1,
oD 91 (.slice 10 89 (some 90) none none),
oM 92 7,
oC 93 34 [91,92]])
(sq (.reg [oM 94 0,
oM 6 94])
.ret))))))))))))
def Z6_:List RD:=[.tmp 6 false none]
theorem Z9_:zs_ Tryd.prog Tryd.f23 qb_ Z6_=true:=by kernel_rfl
def zM_:List AV->List Obj->Option NdR
 | [.own 0,.int .i64 i,.own 1],[.row false ty0 l,.row false ty1 q]=>z8_ ty0 Y2 l fun l=>z8_ ty1 Y2 q fun q=>some (⟨(q:List AC).length=1/\0<=i/\i < (l:List AC).length/\(l:List AC).length<=1000000,Bool,fun _=>True,fun _=>.own 2,fun b=>[match b with | true=>.dead | false=>.row false Y2 l,.row false Y2 q,.row false Y2 ((l:List AC).take i.toNat++(q:List AC)++(l:List AC).drop i.toNat)]⟩)
 | _,_=>none
theorem Z1_:vd_ Tryd.prog 23 (NdF zM_):=by
 refine hn_ Tryd.func23 Z9_ (ze_ _) fun args objs r e=>?_
 unfold zM_ at e
 split at e
 ·rename_i i ty0 l ty1 q
  obtain rfl:=zy_ e
  replace e:=zz_ e
  obtain rfl:=zy_ e
  replace e:=zz_ e
  cases e
  refine ⟨rfl,fun hw ho hp=>?_⟩
  change List AC at l
  change List AC at q
  clear hw ho
  obtain ⟨h1,h2,h3,h4⟩:=hp
  repeat'(intro t ht;first|(cases t<;>first|(cases ht;done)|(try simp only[zh_]at ht;try(exfalso;first|contradiction|omega)))|((first|refine zb_ ht ?_|refine ht ?_ ?_|refine ht.1 ?_ ?_|refine ht ?_)<;>clear ht))
  all_goals first
   | exact True.intro
   | omega
   | (constructor<;>omega)
   | (simp only [zv_];omega)
   | refine ⟨fun c hc=>?_⟩
  all_goals repeat'(intro t ht;first|(cases t<;>first|(cases ht;done)|(try simp only[zh_]at ht;try(exfalso;first|contradiction|omega)))|((first|refine zb_ ht ?_|refine ht ?_ ?_|refine ht.1 ?_ ?_|refine ht ?_)<;>clear ht))
  all_goals first
   | exact True.intro
   | omega
   | (constructor<;>omega)
   | (simp only [zv_];omega)
   | exact (show 0 < q.length/\0 < l.length/\0 < 10/\0 < 10 by omega)
   | (simp only [List.length_append,List.length_take,List.length_drop,List.length_replicate];omega)
   | exact ⟨true,True.intro,rfl,congrArg (fun z=>[Obj.dead,Obj.row false Y2 q,Obj.row false Y2 z]) (Uz_ h1 (by omega) (by omega) (by omega) (by omega) (by simp only [List.length_append,List.length_take,List.length_drop];omega) rfl (by simp only [List.length_append,List.length_take,List.length_drop];omega))⟩
   | exact ⟨false,True.intro,rfl,congrArg (fun z=>[Obj.row false Y2 l,Obj.row false Y2 q,Obj.row false Y2 z]) (UA_ h1 (by omega) (by omega) (by omega) (by (try simp only [List.length_append,List.length_take,List.length_drop,List.length_replicate]);omega) (by (try simp only [List.length_append,List.length_take,List.length_drop,List.length_replicate]);omega) (by (try simp only [List.length_append,List.length_take,List.length_drop,List.length_replicate]);omega) (by omega) (by omega) (by (try simp only [List.length_append,List.length_take,List.length_drop,List.length_replicate]);omega) (by omega) (by (try simp only [List.length_append,List.length_take,List.length_drop,List.length_replicate]);omega))⟩
 ·cases e
def yb_ (x a:AC):Bool:=decide (zC_ x.1=zC_ a.1) && decide (x.1=a.1) && decide (flA x=flA a)
def ZX_ (out:List AC) (a:AC):List AC:=
 if ZG_ (fun x=>decide (0<=Jl_ x a)) out 0 < 0 then out++[a]
 else if yb_ (out.getD (ZG_ (fun x=>decide (0<=Jl_ x a)) out 0).toNat (Ty.dflt Y2)) a=true then out.set (ZG_ (fun x=>decide (0<=Jl_ x a)) out 0).toNat a
 else out.take (ZG_ (fun x=>decide (0<=Jl_ x a)) out 0).toNat++[a]++out.drop (ZG_ (fun x=>decide (0<=Jl_ x a)) out 0).toNat
def wok (set l:List AC):Bool:=rtA set && !(l.any fun o=>!Zf_ o)
def wtL (set l:List AC):List AC:=if wok set l=true then l.foldl ZX_ set else []
def wtE (set l:List AC):Int:=if wok set l=true then 0 else 10001
theorem UC_ (out:List AC) (a:AC):(ZX_ out a).length<=out.length+1:=by
 unfold ZX_
 split
 ·rw [List.length_append];exact Nat.le_refl _
 ·split
  ·rw [List.length_set];omega
  ·rw [List.length_append,List.length_append,List.length_take,List.length_drop];show min _ _+1+_<=_;omega
theorem Jy_:∀ (l set:List AC),(l.foldl ZX_ set).length<=set.length+l.length
 | [],set=>Nat.le_refl _
 | a :: r,set=>by
   have h1:=Jy_ r (ZX_ set a)
   have h2:=UC_ set a
   show (r.foldl ZX_ (ZX_ set a)).length<=_
   rw [List.length_cons];omega
theorem v3_ {l set:List AC} {i:Nat} {d:AC} (h:i < l.length):(l.take (i+1)).foldl ZX_ set=ZX_ ((l.take i).foldl ZX_ set) (l.getD i d):=by
 rw [<- Kh_ (d:=d) h,List.foldl_append];rfl
def wt_:IR:=
(sq (kr [0,1] [oD 4 (.mov (.c (.imm Y2 []))),
oD 5 (.mov (cI 0))])
(sq (sq (kr [0,1] [oM 11 0,
oC 12 9 [11],
oD 13 (.un .not 12),
oM 14 13,
oF 14 15 (.mov 1),
oF 14 16 (.call false (.f 14) [15,(.f 15)]),
oP 17 14 cT 16])
(.cond 17
(sq (kr [] [oD 4 (.mov (.c (.imm Y2 []))),
oD 5 (.mov (cI 10001))])
.ret)
.skip))
(sq (kr [0,1] [oM 18 0,
oD 19 (.call true (.f 17) [18]),
oM 6 19])
(sq (sq (.reg [oM 20 1,
oE 21 20,
oD 22 (.mov (cI 0))])
(.block 0
(.loop
(sq (kr [6,20,21,22] [oB 23 .lss 22 21])
(sq (.cond 23
.skip
(.exit 0))
(sq (.block 1
(sq (.reg [oI 24 10 20 22,
oK 25 10 24,
oD 8 (.box [.int .i64 0,.int .u64 0,.int .u64 0,.int .i64 0,.int .i64 0,.kb false,.int .u64 0,.imm (.int .u8) [],.imm (.int .u8) [],.imm (.int .u8) []]),
oS 10 8 25])
(sq (.reg [oK 26 10 8,
oC 27 18 [26],
oD 9 (.box [.int .i64 0,.int .i64 0,.int .i64 0]),
oS 3 9 27])
(sq (kr [6,8,9,20,21,22] [oM 28 6,
oD 29 (.mkfn 20 [] [9]),
oC 30 19 [28,29],
oM 10 30])
(.block 2
(sq (.reg [oM 38 10,
oB 39 .lss 38 (cI 0),
oM 37 39])
(.cond 37
(kr [6,8,20,21,22] [oM 40 6,
oK 41 10 8,
oC 42 22 [41],
oD 43 (.sliceOwn Y2 1 [(0,10,42)]),
oD 44 (.append Y2 128 40 43),
oM 6 44])
(sq (kd [6,8,9,10,20,21,22] [(oM 46 6,[]),
(oM 47 10,[0]),
(oI 48 10 46 47,[]),
(oK 49 10 48,[]),
(oC 50 18 [49],[]),
(oK 51 3 9,[0,0,0,0,0]),
(oD 52 (.eqs false [.int .i64,.int .i64,.int .i64] 50 51),[]),
(oM 45 52,[])])
(.cond 45
(kr [6,8,10,20,21,22] [oM 53 6,
oM 54 10,
oK 55 10 8,
oC 56 22 [55],
oI 57 10 53 54,
oS 10 57 56])
(kr [6,8,10,20,21,22] [oM 31 6,
oM 32 10,
oK 33 10 8,
oC 34 22 [33],
oD 35 (.sliceOwn Y2 1 [(0,10,34)]),
oD 36 (.calln (.f 23) [31,32,35]),
oM 6 36]))))))))))
(kr [6,20,21,22] [oB 58 .add 22 (cI 1),
oM 22 58])))))))
(sq (kr [6] [oM 59 6,
oM 4 59,
oD 5 (.mov (cI 0))])
.ret)))))
def we_:List RD:=[.tmp 4 true (some Y2),.tmp 5 true none]
theorem wm_:zs_ Tryd.prog Tryd.f7 wt_ we_=true:=by kernel_rfl
def Zu_:List AV->List Obj->Option (Prop × AV)
 | [.imm ty0 u,.imm ty1 l],[]=>z8_ ty0 Y2 u fun u=>z8_ ty1 Y2 l fun l=>some ((okL u/\okL l/\(u:List AC).length<=100000/\(l:List AC).length<=100000,.tup [.imm Y2 (wtL u l),.int .i64 (wtE u l)]))
 | _,_=>none
theorem qp_:zg_ Tryd.prog 7 (RoF Zu_).sum:=by
 refine zm_ Tryd.func7 wm_ (zc_ (s:=RoF Za_) Zx_ (zc_ (s:=RoF zo_) zW_ (zc_ (s:=RoF ZB_) Qc_ (zc_ (s:=RwF QC_) KH_ (zc_ (s:=RoF qN_) QF_ (zc_ (s:=RoF ZA_) Qb_ (zc_ (s:=RoF zk_) zA_ (zc_ (s:=RwF qE_) kA_ (zc_ (s:=NdF zM_) Z1_ (ze_ _)))))))))) fun args objs p v e=>?_
 unfold Zu_ at e
 split at e
 ·rename_i ty0 u ty1 l
  obtain rfl:=zy_ e
  replace e:=zz_ e
  obtain rfl:=zy_ e
  replace e:=zz_ e
  cases e
  refine ⟨rfl,fun hw ho hp=>?_⟩
  change List AC at u
  change List AC at l
  clear hw ho
  obtain ⟨hp1,hp2,hu,hl⟩:=hp
  cases hr:rtA u with
  | false=>
    have e1:wtL u l=[]:=by unfold wtL wok;rw [hr];rfl
    have e2:wtE u l=10001:=by unfold wtE wok;rw [hr];rfl
    rw [e1,e2]
    repeat'(intro t ht;first|(cases t<;>first|(cases ht;done)|(try simp only[zh_]at ht;try(exfalso;first|contradiction|omega)))|((first|refine zb_ ht ?_|refine ht ?_ ?_|refine ht.1 ?_ ?_|refine ht ?_)<;>clear ht))
    all_goals first
     | exact True.intro
     | exact hp1
     | exact hp2
     | exact ⟨rfl,by first | rfl | exact True.intro⟩
     | (exfalso;rw [hr] at*;contradiction)
  | true=>
    cases ha:l.any (fun o=>!Zf_ o) with
    | true=>
      have e1:wtL u l=[]:=by unfold wtL wok;rw [hr,ha];rfl
      have e2:wtE u l=10001:=by unfold wtE wok;rw [hr,ha];rfl
      rw [e1,e2]
      repeat'(intro t ht;first|(cases t<;>first|(cases ht;done)|(try simp only[zh_]at ht;try(exfalso;first|contradiction|omega)))|((first|refine zb_ ht ?_|refine ht ?_ ?_|refine ht.1 ?_ ?_|refine ht ?_)<;>clear ht))
      all_goals first
       | exact True.intro
       | exact hp1
       | exact hp2
       | exact ⟨rfl,by first | rfl | exact True.intro⟩
       | (exfalso;rw [hr] at*;contradiction)
       | (exfalso;rw [ha] at*;contradiction)
    | false=>
      have e1:wtL u l=l.foldl ZX_ u:=by unfold wtL wok;rw [hr,ha];rfl
      have e2:wtE u l=0:=by unfold wtE wok;rw [hr,ha];rfl
      rw [e1,e2]
      repeat'(intro t ht;first|(cases t<;>first|(cases ht;done)|(try simp only[zh_]at ht;try(exfalso;first|contradiction|omega)))|((first|refine zb_ ht ?_|refine ht ?_ ?_|refine ht.1 ?_ ?_|refine ht ?_)<;>clear ht))
      all_goals first
       | exact True.intro
       | exact hp1
       | exact hp2
       | (exfalso;rw [hr] at*;contradiction)
       | (exfalso;rw [ha] at*;contradiction)
       | (intro r h1 h2;clear h1;refine h2 ⟨[6,20,21,22],(Nat × List AC),(fun p=>p.1<=l.length/\p.2=(l.take p.1).foldl ZX_ u),fun p=>[.own 0,.imm Y2 l,.int .i64 l.length,.int .i64 p.1],fun p=>[.row false Y2 p.2],fun p=>l.length - p.1,⟨(0,u),⟨Nat.zero_le _,rfl⟩,rfl,rfl⟩,?_⟩;clear h2)
      rintro ⟨i,out⟩ ⟨hi,hout⟩
      dsimp only at hi hout
      have hq1:=Jy_ (l.take i) u
      have hq2:(l.take i).length=i:=yX_ hi
      rw [<- hout,hq2] at hq1
      by_cases hlt:i < l.length
      ·have hln:=hp2.a _ (zJ_ hlt (Ty.dflt Y2))
       have hst:(l.take (i+1)).foldl ZX_ u=ZX_ out (l.getD i (Ty.dflt Y2)):=by rw [hout];exact v3_ (set:=u) (d:=(Ty.dflt Y2)) hlt
       rcases Kk_ (fun x=>decide (0<=Jl_ x (l.getD i (Ty.dflt Y2)))) (Ty.dflt Y2) out 0 with ⟨y1,y2⟩ | ⟨k,y1,y2,y3,y4⟩
       ·have hi1:ZX_ out (l.getD i (Ty.dflt Y2))=out++[l.getD i (Ty.dflt Y2)]:=by unfold ZX_;rw [y1];rfl
        change ZG_ (fun a=>decide (0<=wj_ (zC_ a.1) a.1 (flA a) (zC_ (l.getD i (Ty.dflt Y2)).1) (l.getD i (Ty.dflt Y2)).1 (flF (l.getD i (Ty.dflt Y2)).1 (l.getD i (Ty.dflt Y2)).2.2.2.1.2.1))) out 0=-1 at y1
        repeat'(intro t ht;first|(cases t<;>first|(cases ht;done)|(try simp only[zh_]at ht;try(exfalso;first|contradiction|omega)))|((first|refine zb_ ht ?_|refine ht ?_ ?_|refine ht.1 ?_ ?_|refine ht ?_)<;>clear ht))
        all_goals (try generalize (Ty.dflt Y2)=od at*)
        all_goals (try simp only [Qi_,Int.toNat_natCast,UU_])
        all_goals first
         | exact True.intro
         | omega
         | exact ⟨by have:=hln.2.2;exact Nat.le_trans this (by decide),hln.1,hln.2.1⟩
         | (simp only [List.length_append,List.length_cons,List.length_nil];omega)
         | (simp only [List.length_append,List.length_cons,List.length_nil];constructor<;>omega)
         | (simp only [zv_];omega)
         | (refine ⟨(i+1,ZX_ out (l.getD i od)),⟨by dsimp only;omega,hst.symm⟩,by dsimp only;omega,rfl,?_⟩
            dsimp only;rw [hi1])
       ·rw [Int.zero_add] at y2
        have hi2:yb_ (out.getD k (Ty.dflt Y2)) (l.getD i (Ty.dflt Y2))=true->ZX_ out (l.getD i (Ty.dflt Y2))=out.set k (l.getD i (Ty.dflt Y2)):=fun h=>by
         unfold ZX_;rw [y2,if_neg (by omega),Int.toNat_natCast,if_pos h]
        have hi3:yb_ (out.getD k (Ty.dflt Y2)) (l.getD i (Ty.dflt Y2))=false->ZX_ out (l.getD i (Ty.dflt Y2))=out.take k++[l.getD i (Ty.dflt Y2)]++out.drop k:=fun h=>by
         unfold ZX_;rw [y2,if_neg (by omega),Int.toNat_natCast,if_neg (by rw [h];decide)]
        change ZG_ (fun a=>decide (0<=wj_ (zC_ a.1) a.1 (flA a) (zC_ (l.getD i (Ty.dflt Y2)).1) (l.getD i (Ty.dflt Y2)).1 (flF (l.getD i (Ty.dflt Y2)).1 (l.getD i (Ty.dflt Y2)).2.2.2.1.2.1))) out 0=k at y2
        repeat'(intro t ht;first|(cases t<;>first|(cases ht;done)|(try simp only[zh_]at ht;try(exfalso;first|contradiction|omega)))|((first|refine zb_ ht ?_|refine ht ?_ ?_|refine ht.1 ?_ ?_|refine ht ?_)<;>clear ht))
        all_goals (try generalize (Ty.dflt Y2)=od at*)
        all_goals (try simp only [Qi_,Int.toNat_natCast,UU_,y2])
        all_goals first
         | exact True.intro
         | omega
         | exact ⟨by have:=hln.2.2;exact Nat.le_trans this (by decide),hln.1,hln.2.1⟩
         | (simp only [List.length_append,List.length_cons,List.length_nil];omega)
         | (simp only [List.length_append,List.length_cons,List.length_nil];constructor<;>omega)
         | (simp only [zv_];omega)
         | (simp only [y2,Int.toNat_natCast] at ht
            have hpl:yb_ (out.getD k od) (l.getD i od)=true:=by
             obtain ⟨p1,p2,p3,_⟩:=ht
             unfold yb_ flA;rw [decide_eq_true p1,decide_eq_true p2,decide_eq_true p3];rfl
            refine ⟨(i+1,ZX_ out (l.getD i od)),⟨by dsimp only;omega,hst.symm⟩,by dsimp only;omega,rfl,?_⟩
            dsimp only;rw [hi2 hpl])
         | exact ⟨rfl,by omega,by omega,by omega⟩
         | (rename _\/_=>ht2
            simp only [y2,Int.toNat_natCast] at ht2
            have hpl:yb_ (out.getD k od) (l.getD i od)=false:=by
             unfold yb_ flA;rcases ht2 with p | p | p | p<;>first | (cases p;done) | (rw [decide_eq_false p];rfl) | (rw [decide_eq_false p,Bool.and_false];rfl) | (rw [decide_eq_false p,Bool.and_false])
            refine ⟨(i+1,ZX_ out (l.getD i od)),⟨by dsimp only;omega,hst.symm⟩,by dsimp only;omega,rfl,?_⟩
            dsimp only;rw [hi3 hpl])
      ·have hend:=congrArg (fun z:List AC=>z.foldl ZX_ u) (List.take_of_length_le (show l.length<=i by omega))
       repeat'(intro t ht;first|(cases t<;>first|(cases ht;done)|(try simp only[zh_]at ht;try(exfalso;first|contradiction|omega)))|((first|refine zb_ ht ?_|refine ht ?_ ?_|refine ht.1 ?_ ?_|refine ht ?_)<;>clear ht))
       all_goals first
        | exact True.intro
        | omega
        | (rw [hout,hend];exact ⟨rfl,by first | rfl | exact True.intro⟩)
 ·cases e
def stp (a:AC) (s:Bool × List AC) (x:AC):Bool × List AC:=(s.1 || !W7_ x a,(if (!s.1 && !W7_ x a)=true then s.2++[a] else s.2)++(if gF_ x a=true then [] else [x]))
def stR (a:AC) (l:List AC):Bool × List AC:=l.foldl (stp a) (false,[])
def ht_ (out:List AC) (a:AC):List AC:=if (stR a out).1=true then (stR a out).2 else (stR a out).2++[a]
theorem Gm_ {a x:AC} {s1 b c:Bool} {s2:List AC} (h1:W7_ x a=b) (h2:gF_ x a=c):stp a (s1,s2) x=(s1 || !b,(if (!s1 && !b)=true then s2++[a] else s2)++(if c=true then [] else [x])):=by
 unfold stp;rw [h1,h2]
def kG_ (l:List AC):List AC:=if rtA l=true then (if l.any (fun a=>decide (a.1=22))=true then dlA l else l) else []
def uC_ (l:List AC):Bool:=!rtA l || (!(l.any fun a=>decide (a.1=0)) && !(l.any fun a=>decide (a.1=22)))
def WB_:IR:=
(sq (kr [0] [oD 2 (.mov (.c (.imm Y2 [])))])
(sq (sq (.reg [oM 4 0,
oC 5 9 [4],
oD 6 (.un .not 5)])
(.cond 6
(sq (.reg [oD 2 (.mov (.c (.imm Y2 [])))])
.ret)
.skip))
(sq (.reg [oM 7 0,
oD 8 (.call true (.f 17) [7]),
oM 3 8])
(sq (sq (kr [0,3] [oM 9 0,
oC 10 25 [9,(cI 22)]])
(.cond 10
(.reg [oM 11 3,
oD 12 (.call true (.f 26) [11,.f 27]),
oM 3 12])
.skip))
(sq (.reg [oM 13 3,
oM 2 13])
.ret)))))
def w5_:List RD:=[.tmp 2 true (some Y2)]
theorem Wj_:zs_ Tryd.prog Tryd.f10 WB_ w5_=true:=by kernel_rfl
def qD_:List AV->List Obj->Option (Prop × AV)
 | [.imm ty0 l],[]=>z8_ ty0 Y2 l fun l=>some ((okL l,.imm Y2 (kG_ l)))
 | _,_=>none
theorem kz_:zg_ Tryd.prog 10 (RoF qD_).sum:=by
 refine zm_ Tryd.func10 Wj_ (zc_ (s:=RoF Za_) Zx_ (zc_ (s:=RwF QC_) KH_ (zc_ (s:=RoF q5_) kQ_ (zc_ (s:=RwF zD_) Zw_ (zc_ (s:=RoF Ze_) Z5_ (ze_ _)))))) fun args objs p v e=>?_
 unfold qD_ at e
 split at e
 ·rename_i ty0 l
  obtain rfl:=zy_ e
  replace e:=zz_ e
  cases e
  refine ⟨rfl,fun hw ho hp=>?_⟩
  change List AC at l
  clear hw ho
  have hn:=hp.n
  cases hr:rtA l with
  | false=>
    have e1:kG_ l=[]:=by unfold kG_;rw [hr];rfl
    rw [e1]
    repeat'(intro t ht;first|(cases t<;>first|(cases ht;done)|(try simp only[zh_]at ht;try(exfalso;first|contradiction|omega)))|((first|refine zb_ ht ?_|refine ht ?_ ?_|refine ht.1 ?_ ?_|refine ht ?_)<;>clear ht))
    all_goals first
     | exact True.intro
     | exact hp
     | exact ⟨rfl,by first | rfl | exact True.intro⟩
     | (exfalso;rw [hr] at*;contradiction)
  | true=>
    cases ha:l.any (fun a=>decide (a.1=22)) with
    | true=>
      have e1:kG_ l=dlA l:=by unfold kG_;rw [hr,ha];rfl
      rw [e1]
      repeat'(intro t ht;first|(cases t<;>first|(cases ht;done)|(try simp only[zh_]at ht;try(exfalso;first|contradiction|omega)))|((first|refine zb_ ht ?_|refine ht ?_ ?_|refine ht.1 ?_ ?_|refine ht ?_)<;>clear ht))
      all_goals first
       | exact True.intro
       | exact hp
       | exact hn
       | exact ⟨rfl,by first | rfl | exact True.intro⟩
       | (exfalso;rw [hr] at*;contradiction)
       | (exfalso;rw [ha] at*;contradiction)
    | false=>
      have e1:kG_ l=l:=by unfold kG_;rw [hr,ha];rfl
      rw [e1]
      repeat'(intro t ht;first|(cases t<;>first|(cases ht;done)|(try simp only[zh_]at ht;try(exfalso;first|contradiction|omega)))|((first|refine zb_ ht ?_|refine ht ?_ ?_|refine ht.1 ?_ ?_|refine ht ?_)<;>clear ht))
      all_goals first
       | exact True.intro
       | exact hp
       | exact ⟨rfl,by first | rfl | exact True.intro⟩
       | (exfalso;rw [hr] at*;contradiction)
       | (exfalso;rw [ha] at*;contradiction)
 ·cases e
def wv_:IR:=
(sq (kr [0] [oD 2 (.mov cF)])
(sq (kr [0] [oM 3 0,
oC 4 9 [3],
oD 5 (.un .not 4),
oM 6 5,
oF 6 7 (.mov 0),
oF 6 8 (.call false (.f 25) [7,(cI 0)]),
oF 6 9 (.un .not 8),
oF 6 10 (.mov 9),
oT 10 11 (.mov 0),
oT 10 12 (.call false (.f 25) [11,(cI 22)]),
oT 10 13 (.un .not 12),
oF 6 14 (.pick 10 13 cF),
oP 15 6 cT 14,
oM 2 15])
.ret))
def wg_:List RD:=[.tmp 2 true none]
theorem wo_:zs_ Tryd.prog Tryd.f13 wv_ wg_=true:=by kernel_rfl
def Qm_:List AV->List Obj->Option (Prop × AV)
 | [.imm ty0 l],[]=>z8_ ty0 Y2 l fun l=>some ((okL l,.bool (uC_ l)))
 | _,_=>none
theorem Je_:zg_ Tryd.prog 13 (RoF Qm_).sum:=by
 refine zm_ Tryd.func13 wo_ (zc_ (s:=RoF Za_) Zx_ (zc_ (s:=RoF q5_) kQ_ (ze_ _))) fun args objs p v e=>?_
 unfold Qm_ at e
 split at e
 ·rename_i ty0 l
  obtain rfl:=zy_ e
  replace e:=zz_ e
  cases e
  refine ⟨rfl,fun hw ho hp=>?_⟩
  change List AC at l
  clear hw ho
  cases hr:rtA l with
  | false=>
    repeat'(intro t ht;first|(cases t<;>first|(cases ht;done)|(try simp only[zh_]at ht;try(exfalso;first|contradiction|omega)))|((first|refine zb_ ht ?_|refine ht ?_ ?_|refine ht.1 ?_ ?_|refine ht ?_)<;>clear ht))
    all_goals first
     | exact True.intro
     | exact hp
     | (refine ⟨congrArg AV.bool ?_,rfl⟩;unfold uC_;rw [hr];rfl)
     | (exfalso;rw [hr] at*;contradiction)
  | true=>
    cases h0:l.any (fun a=>decide (a.1=0)) with
    | true=>
      repeat'(intro t ht;first|(cases t<;>first|(cases ht;done)|(try simp only[zh_]at ht;try(exfalso;first|contradiction|omega)))|((first|refine zb_ ht ?_|refine ht ?_ ?_|refine ht.1 ?_ ?_|refine ht ?_)<;>clear ht))
      all_goals first
       | exact True.intro
       | exact hp
       | (refine ⟨congrArg AV.bool ?_,rfl⟩;unfold uC_;rw [hr,h0];rfl)
       | (exfalso;rw [hr] at*;contradiction)
       | (exfalso;rw [h0] at*;contradiction)
    | false=>
      repeat'(intro t ht;first|(cases t<;>first|(cases ht;done)|(try simp only[zh_]at ht;try(exfalso;first|contradiction|omega)))|((first|refine zb_ ht ?_|refine ht ?_ ?_|refine ht.1 ?_ ?_|refine ht ?_)<;>clear ht))
      all_goals first
       | exact True.intro
       | exact hp
       | (refine ⟨congrArg AV.bool ?_,rfl⟩;unfold uC_;rw [hr,h0];rfl)
       | (exfalso;rw [hr] at*;contradiction)
       | (exfalso;rw [h0] at*;contradiction)
 ·cases e
def kyT (t:Int):Int:=if t=12 then 0 else if t=18 then 1 else if t=20 then 2 else if t=27 then 3 else if t=19 then 4 else if t=26 then 5 else if t=17 then 6 else if t=11 then 7 else if t=16 then 8 else if t=24 then 9 else if t=15 then 10 else if t=23 then 11 else if t=25 then 12 else if t=21 then 48 else if t=22 then 49 else 50
def kyF (q f:Int):Int:=if q=25 then 9+f else kyT q
def kyA (a:AC):Int:=kyF a.1 a.2.2.2.1.2.1
theorem hs_:∀ q:Nat,q < 28->0 < zC_ (q:Int)->0<=kyT q/\kyT q<=50/\(kyT q<=12\/48<=kyT q)/\((q:Int)=25 ↔ kyT q=12):=by decide+kernel
theorem GP_:∀ q:Nat,q < 28->∀ p:Nat,p < 28->(decide (0 < zC_ (q:Int)) && decide (0 < zC_ (p:Int)))=true->(decide (zC_ (q:Int) < zC_ (p:Int)) || (decide (zC_ (q:Int)=zC_ (p:Int)) && decide ((q:Int) < p)))=decide (kyT (q:Int) < kyT (p:Int))/\decide ((q:Int)=p)=decide (kyT (q:Int)=kyT (p:Int)):=by decide+kernel
theorem ya_ {q:Int} (h:0 < zC_ q):0<=q/\q < 28:=by
 unfold zC_ at h
 repeat' split at h
 all_goals omega
theorem Wt_ {q:Int} (h:0 < zC_ q):0<=kyT q/\kyT q<=50/\(kyT q<=12\/48<=kyT q)/\(q=25 ↔ kyT q=12):=by
 have h1:=ya_ h
 have e:((q.toNat:Nat):Int)=q:=Int.toNat_of_nonneg h1.1
 have:=hs_ q.toNat (by omega) (by rw [e];exact h)
 rwa [e] at this
theorem VL_ {q p:Int} (h:0 < zC_ q) (h':0 < zC_ p):((zC_ q < zC_ p\/(zC_ q=zC_ p/\q < p)) ↔ kyT q < kyT p)/\(q=p ↔ kyT q=kyT p):=by
 have h1:=ya_ h
 have h2:=ya_ h'
 have e:((q.toNat:Nat):Int)=q:=Int.toNat_of_nonneg h1.1
 have e':((p.toNat:Nat):Int)=p:=Int.toNat_of_nonneg h2.1
 obtain ⟨a1,a2⟩:=GP_ q.toNat (by omega) p.toNat (by omega) (by rw [e,e',decide_eq_true h,decide_eq_true h'];rfl)
 rw [e,e',Bool.eq_iff_iff] at a1 a2
 simp only [Bool.or_eq_true,Bool.and_eq_true,decide_eq_true_eq] at a1 a2
 exact ⟨a1,a2⟩
theorem qa_ {a:AC} (h:Zf_ a=true):0 < zC_ a.1:=by
 unfold Zf_ un_ at h
 simp only [Bool.and_eq_true,decide_eq_true_eq] at h
 exact h.1
theorem QS_ {a:AC} (h:Zf_ a=true) (h25:a.1=25):2 < a.2.2.2.1.2.1/\a.2.2.2.1.2.1 < 39:=by
 unfold Zf_ un_ Ji_ at h
 rw [if_pos h25] at h
 simp only [Bool.and_eq_true,decide_eq_true_eq] at h
 have:=h.2.2.1.2
 unfold y4_ at this
 simpa using this
theorem Xj_ {x a:AC} (hx:Zf_ x=true) (ha:Zf_ a=true):Jl_ x a < 0 ↔ kyA x < kyA a:=by
 have h1:=Wt_ (qa_ hx)
 have h2:=Wt_ (qa_ ha)
 have h3:=VL_ (qa_ hx) (qa_ ha)
 have f1:=QS_ hx
 have f2:=QS_ ha
 unfold Jl_
 rw [VD_]
 unfold kyA kyF flA flF
 by_cases e1:x.1=25<;>by_cases e2:a.1=25
 ·rw [if_pos e1,if_pos e1,if_pos e2,if_pos e2,e1,e2];omega
 ·rw [if_pos e1,if_neg e2,if_pos e1,if_neg e2];have:=f1 e1;omega
 ·rw [if_neg e1,if_pos e2,if_neg e1,if_pos e2];have:=f2 e2;omega
 ·rw [if_neg e1,if_neg e2,if_neg e1,if_neg e2];omega
theorem yt_ {x a:AC} (hx:Zf_ x=true) (ha:Zf_ a=true):(x.1=a.1/\flA x=flA a) ↔ kyA x=kyA a:=by
 have h1:=Wt_ (qa_ hx)
 have h2:=Wt_ (qa_ ha)
 have h3:=VL_ (qa_ hx) (qa_ ha)
 have f1:=QS_ hx
 have f2:=QS_ ha
 unfold kyA kyF flA flF
 by_cases e1:x.1=25<;>by_cases e2:a.1=25
 ·rw [if_pos e1,if_pos e1,if_pos e2,if_pos e2,e1,e2];omega
 ·rw [if_pos e1,if_neg e2,if_pos e1,if_neg e2];have:=f1 e1;omega
 ·rw [if_neg e1,if_pos e2,if_neg e1,if_pos e2];have:=f2 e2;omega
 ·rw [if_neg e1,if_neg e2,if_neg e1,if_neg e2];omega
theorem Gr_ {a:AC} (h:Zf_ a=true):0<=kyA a/\kyA a<=50:=by
 have h1:=Wt_ (qa_ h)
 have f1:=QS_ h
 unfold kyA kyF
 by_cases e1:a.1=25
 ·rw [if_pos e1];have:=f1 e1;omega
 ·rw [if_neg e1];omega
theorem VC_ {x a:AC} (hx:Zf_ x=true) (ha:Zf_ a=true):gF_ x a=decide (kyA x=kyA a):=by
 rw [Bool.eq_iff_iff,decide_eq_true_eq,<- yt_ hx ha]
 unfold gF_
 rw [Bool.and_eq_true,decide_eq_true_eq,decide_eq_true_eq]
theorem gE_ {x a:AC} (hx:Zf_ x=true) (ha:Zf_ a=true):yb_ x a=decide (kyA x=kyA a):=by
 rw [Bool.eq_iff_iff,decide_eq_true_eq,<- yt_ hx ha]
 unfold yb_
 rw [Bool.and_eq_true,Bool.and_eq_true,decide_eq_true_eq,decide_eq_true_eq,decide_eq_true_eq]
 constructor
 ·rintro ⟨⟨_,h⟩,k⟩;exact ⟨h,k⟩
 ·rintro ⟨h,k⟩;exact ⟨⟨by rw [h],h⟩,k⟩
def x0_ (l:List AC):Prop:=∀ x ∈ l,Zf_ x=true
def Kx_ (l:List AC):Prop:=l.Pairwise fun x y=>kyA x < kyA y
structure setM (l:List AC):Prop where
 m:x0_ l
 s:Kx_ l
theorem G4_ {l:List AC} (d:AC) (h:∀ i,0 < i->i < l.length->kyA (l.getD (i - 1) d) < kyA (l.getD i d)):Kx_ l:=by
 have hg:∀ i (hi:i < l.length),l.getD i d=l[i]:=fun i hi=>by rw [List.getD_eq_getElem?_getD,List.getElem?_eq_getElem hi];rfl
 refine List.pairwise_iff_getElem.2 fun i j hi hj hij=>?_
 have key:∀ n,∀ j (hj:j < l.length),i < j->j=i+1+n->kyA l[i] < kyA l[j]:=fun n=>by
  induction n with
  | zero=>
    intro j hj _ e
    have:=h j (by omega) hj
    rw [hg j hj,hg (j - 1) (by omega)] at this
    have e2:l[j - 1]'(by omega)=l[i]:=by congr 1;omega
    rwa [e2] at this
  | succ n ih=>
    intro j hj _ e
    have h1:=ih (j - 1) (by omega) (by omega) (by omega)
    have h2:=h j (by omega) hj
    rw [hg j hj,hg (j - 1) (by omega)] at h2
    omega
 exact key (j - i - 1) j hj hij (by omega)
theorem GF_ {l:List AC} (h:rtA l=true):setM l:=by
 have h1:=of_decide_eq_true h
 have hm:x0_ l:=fun x hx=>by
  obtain ⟨i,hi,rfl⟩:=List.mem_iff_getElem.1 hx
  have:=(h1 i hi).1
  rwa [List.getD_eq_getElem?_getD,List.getElem?_eq_getElem hi] at this
 refine ⟨hm,G4_ (Ty.dflt Y2) fun i h0 hi=>?_⟩
 exact (Xj_ (hm _ (zJ_ (show i - 1 < l.length by omega) _)) (hm _ (zJ_ hi _))).1 ((h1 i hi).2 h0)
theorem vw_ {l:List AC} (h:setM l):rtA l=true:=by
 refine decide_eq_true fun i hi=>⟨h.m _ (zJ_ hi _),fun h0=>?_⟩
 refine (Xj_ (h.m _ (zJ_ (show i - 1 < l.length by omega) _)) (h.m _ (zJ_ hi _))).2 ?_
 have:=List.pairwise_iff_getElem.1 h.s (i - 1) i (by omega) hi (by omega)
 rw [List.getD_eq_getElem?_getD,List.getD_eq_getElem?_getD,List.getElem?_eq_getElem hi,List.getElem?_eq_getElem (show i - 1 < l.length by omega)]
 exact this
def qc_ (a:AC):List AC->List AC
 | []=>[a]
 | x :: r=>if kyA x < kyA a then x :: qc_ a r else if kyA x=kyA a then a :: r else a :: x :: r
theorem WF_ {a:AC}:∀ (l r:List AC),(∀ x ∈ l,kyA x < kyA a)->qc_ a (l++r)=l++qc_ a r
 | [],r,h=>rfl
 | x :: l,r,h=>by
   show (if kyA x < kyA a then x :: qc_ a (l++r) else _)=_
   rw [if_pos (h x (by simp)),WF_ l r fun y hy=>h y (List.mem_cons_of_mem _ hy)];rfl
theorem uw_ {out:List AC} {a:AC} (hm:x0_ out) (ha:Zf_ a=true):ZX_ out a=qc_ a out:=by
 have hP:∀ x ∈ out,decide (0<=Jl_ x a)=false->kyA x < kyA a:=fun x hx h=>(Xj_ (hm x hx) ha).1 (Int.not_le.1 (of_decide_eq_false h))
 rcases Kk_ (fun x=>decide (0<=Jl_ x a)) (Ty.dflt Y2) out 0 with ⟨y1,y2⟩ | ⟨k,y1,y2,y3,y4⟩
 ·unfold ZX_
  rw [y1,if_pos (by decide)]
  have:=WF_ (a:=a) out [] fun x hx=>hP x hx (y2 x hx)
  rw [List.append_nil] at this
  rw [this];rfl
 ·rw [Int.zero_add] at y2
  have hsp:out=out.take k++out.getD k (Ty.dflt Y2) :: out.drop (k+1):=by
   rw [<- zK_ y1 (Ty.dflt Y2),List.take_append_drop]
  have hlt:(out.take k).length=k:=by rw [List.length_take];omega
  have h1:=WF_ (a:=a) (out.take k) (out.getD k (Ty.dflt Y2) :: out.drop (k+1)) fun x hx=>hP x (List.mem_of_mem_take hx) (y4 x hx)
  rw [<- hsp] at h1
  have hx:=hm _ (zJ_ y1 (Ty.dflt Y2))
  have h2:¬ kyA (out.getD k (Ty.dflt Y2)) < kyA a:=fun h=>absurd ((Xj_ hx ha).2 h) (Int.not_lt.2 (of_decide_eq_true y3))
  rw [h1]
  unfold ZX_
  rw [y2,if_neg (by omega),Int.toNat_natCast,gE_ hx ha]
  show _=_++(if kyA (out.getD k (Ty.dflt Y2)) < kyA a then _ else if kyA (out.getD k (Ty.dflt Y2))=kyA a then a :: out.drop (k+1) else a :: out.getD k (Ty.dflt Y2) :: out.drop (k+1))
  rw [if_neg h2]
  by_cases h3:kyA (out.getD k (Ty.dflt Y2))=kyA a
  ·rw [if_pos (decide_eq_true h3),if_pos h3,List.set_eq_take_append_cons_drop,if_pos y1]
  ·rw [if_neg (by simpa using h3),if_neg h3,List.append_assoc,zK_ y1 (Ty.dflt Y2)];rfl
theorem jR_ {a:AC}:∀ {l:List AC} {x:AC},x ∈ qc_ a l->x=a\/x ∈ l
 | [],x,h=>.inl (by simpa [qc_] using h)
 | y :: r,x,h=>by
   unfold qc_ at h
   split at h
   ·rcases List.mem_cons.1 h with h | h
    ·exact .inr (by simp [h])
    ·exact (jR_ h).imp id fun h=>List.mem_cons_of_mem _ h
   ·split at h
    ·rcases List.mem_cons.1 h with h | h
     ·exact .inl h
     ·exact .inr (List.mem_cons_of_mem _ h)
    ·rcases List.mem_cons.1 h with h | h
     ·exact .inl h
     ·exact .inr h
theorem QT_ {a:AC}:∀ {l:List AC},Kx_ l->Kx_ (qc_ a l)
 | [],_=>List.pairwise_singleton _ _
 | x :: r,h=>by
   obtain ⟨h1,h2⟩:=List.pairwise_cons.1 h
   unfold qc_
   split
   ·rename_i hlt
    refine List.pairwise_cons.2 ⟨fun y hy=>?_,QT_ h2⟩
    rcases jR_ hy with rfl | hy
    ·exact hlt
    ·exact h1 y hy
   ·split
    ·rename_i he
     exact List.pairwise_cons.2 ⟨fun y hy=>he ▸ h1 y hy,h2⟩
    ·rename_i hl he
     refine List.pairwise_cons.2 ⟨fun y hy=>?_,h⟩
     rcases List.mem_cons.1 hy with rfl | hy
     ·omega
     ·have:=h1 y hy;omega
theorem UB_ {a:AC} {l:List AC} (h:setM l) (ha:Zf_ a=true):setM (qc_ a l):=
 ⟨fun x hx=>by rcases jR_ hx with rfl | hx<;>first | exact ha | exact h.m x hx,QT_ h.s⟩
theorem wS_ {a:AC} (ha:Zf_ a=true):∀ {R acc:List AC},x0_ R->(∀ x ∈ R,kyA a < kyA x)->R.foldl (stp a) (true,acc)=(true,acc++R)
 | [],acc,_,_=>by rw [List.append_nil];rfl
 | x :: r,acc,hm,h=>by
   have e:stp a (true,acc) x=(true,acc++[x]):=by
    rw [Gm_ rfl (VC_ (hm x (by simp)) ha)]
    have:=h x (by simp)
    rw [decide_eq_false (by omega)];rfl
   rw [List.foldl_cons,e,wS_ ha (fun y hy=>hm y (List.mem_cons_of_mem _ hy)) fun y hy=>h y (List.mem_cons_of_mem _ hy),List.append_assoc];rfl
def gW_ (a:AC) (s:Bool × List AC):List AC:=if s.1=true then s.2 else s.2++[a]
theorem x7_ {a:AC} (ha:Zf_ a=true):∀ {l acc:List AC},setM l->gW_ a (l.foldl (stp a) (false,acc))=acc++qc_ a l
 | [],acc,_=>rfl
 | x :: r,acc,h=>by
   obtain ⟨h1,h2⟩:=List.pairwise_cons.1 h.s
   have hx:=h.m x (by simp)
   have hr:setM r:=⟨fun y hy=>h.m y (List.mem_cons_of_mem _ hy),h2⟩
   have hA:W7_ x a=decide (kyA x < kyA a):=by unfold W7_;exact decide_eq_decide.2 (Xj_ hx ha)
   rw [List.foldl_cons,Gm_ hA (VC_ hx ha)]
   show _=acc++(if kyA x < kyA a then x :: qc_ a r else if kyA x=kyA a then a :: r else a :: x :: r)
   by_cases c1:kyA x < kyA a
   ·rw [decide_eq_true c1,decide_eq_false (show ¬ kyA x=kyA a by omega),if_pos c1]
    show gW_ a (r.foldl (stp a) (false,acc++[x]))=_
    rw [x7_ ha hr,List.append_assoc];rfl
   ·rw [decide_eq_false c1,if_neg c1]
    by_cases c2:kyA x=kyA a
    ·rw [decide_eq_true c2,if_pos c2]
     show gW_ a (r.foldl (stp a) (true,acc++[a]++[]))=_
     rw [wS_ ha hr.m fun y hy=>c2 ▸ h1 y hy,List.append_nil,List.append_assoc];rfl
    ·rw [decide_eq_false c2,if_neg c2]
     show gW_ a (r.foldl (stp a) (true,acc++[a]++[x]))=_
     rw [wS_ ha hr.m fun y hy=>by have:=h1 y hy;omega,List.append_assoc,List.append_assoc];rfl
theorem uv_ {out:List AC} {a:AC} (h:setM out) (ha:Zf_ a=true):ht_ out a=qc_ a out:=by
 have:=x7_ ha (acc:=[]) h
 rw [List.nil_append] at this
 exact this
theorem YV_:∀ {l u:List AC},setM u->x0_ l->setM (l.foldl ZX_ u)/\l.foldl ZX_ u=l.foldl (fun z a=>qc_ a z) u/\l.foldl ht_ u=l.foldl ZX_ u
 | [],u,h,_=>⟨h,rfl,rfl⟩
 | a :: r,u,h,hl=>by
   have ha:=hl a (by simp)
   have e1:=uw_ (out:=u) h.m ha
   have e2:=uv_ (out:=u) h ha
   have h1:=UB_ h ha
   have hi:=YV_ (l:=r) h1 fun x hx=>hl x (List.mem_cons_of_mem _ hx)
   rw [List.foldl_cons,List.foldl_cons,List.foldl_cons,e1,e2]
   exact hi
theorem Vq_ {u l:List AC}:wok u l=true ↔ setM u/\x0_ l:=by
 unfold wok
 rw [Bool.and_eq_true,Bool.not_eq_true',List.any_eq_false]
 constructor
 ·rintro ⟨h1,h2⟩;exact ⟨GF_ h1,fun x hx=>by have:=h2 x hx;simpa using this⟩
 ·rintro ⟨h1,h2⟩;exact ⟨vw_ h1,fun x hx=>by rw [h2 x hx];decide⟩
theorem JP_ {u l:List AC} (h:wtE u l=0):setM u/\x0_ l/\wtL u l=l.foldl (fun z a=>qc_ a z) u/\setM (wtL u l):=by
 have hk:wok u l=true:=by
  unfold wtE at h
  split at h
  ·assumption
  ·omega
 obtain ⟨h1,h2⟩:=Vq_.1 hk
 have e:wtL u l=l.foldl ZX_ u:=by unfold wtL;rw [if_pos hk]
 obtain ⟨h3,h4,_⟩:=YV_ h1 h2
 exact ⟨h1,h2,by rw [e,h4],by rw [e];exact h3⟩
theorem JQ_ {u l:List AC} (h:¬ wtE u l=0):wtL u l=[]:=by
 unfold wtE at h
 unfold wtL
 split at h
 ·omega
 ·rw [if_neg (by assumption)]
theorem x3_ {u l:List AC} (h1:setM u) (h2:x0_ l):wtE u l=0:=by
 unfold wtE;rw [if_pos (Vq_.2 ⟨h1,h2⟩)]
def gtK (k:Int) (l:List AC):Option AC:=l.find? fun x=>decide (kyA x=k)
theorem z4_ (k:Int) (x:AC) (r:List AC):gtK k (x :: r)=if kyA x=k then some x else gtK k r:=by
 unfold gtK
 rw [List.find?_cons]
 by_cases h:kyA x=k
 ·rw [if_pos h,decide_eq_true h]
 ·rw [if_neg h,decide_eq_false h]
theorem yG_ {k:Int} {l:List AC} {x:AC} (h:gtK k l=some x):x ∈ l/\kyA x=k:=⟨List.mem_of_find?_eq_some h,by simpa using List.find?_some h⟩
theorem yH_ {k:Int} {l:List AC} (h:∀ x ∈ l,¬ kyA x=k):gtK k l=none:=by
 unfold gtK
 rw [List.find?_eq_none]
 intro x hx;simpa using h x hx
theorem Jv_ {a:AC} (k:Int):∀ {l:List AC},Kx_ l->gtK k (qc_ a l)=if k=kyA a then some a else gtK k l
 | [],_=>by
   show gtK k [a]=_
   rw [z4_]
   by_cases h:k=kyA a
   ·rw [if_pos h,if_pos h.symm]
   ·rw [if_neg h,if_neg (fun e=>h e.symm)]
 | x :: r,hs=>by
   obtain ⟨h1,h2⟩:=List.pairwise_cons.1 hs
   unfold qc_
   split
   ·rename_i hlt
    rw [z4_,z4_,Jv_ k h2]
    by_cases h:k=kyA a
    ·rw [if_pos h,if_pos h,if_neg (by omega)]
    ·rw [if_neg h,if_neg h]
   ·split
    ·rename_i hl he
     rw [z4_,z4_]
     by_cases h:k=kyA a
     ·rw [if_pos h,if_pos h.symm]
     ·rw [if_neg h,if_neg (fun e=>h e.symm),if_neg (by omega)]
    ·rename_i hl he
     rw [z4_]
     by_cases h:k=kyA a
     ·rw [if_pos h,if_pos h.symm]
     ·rw [if_neg h,if_neg (fun e=>h e.symm)]
theorem wA_:∀ {l l':List AC},Kx_ l->Kx_ l'->(∀ k,gtK k l=gtK k l')->l=l'
 | [],[],_,_,_=>rfl
 | [],x :: r,_,_,h=>by
   have:=h (kyA x)
   rw [z4_,if_pos rfl] at this;cases this
 | x :: r,[],_,_,h=>by
   have:=h (kyA x)
   rw [z4_,if_pos rfl] at this;cases this
 | x :: r,y :: s,hl,hl',h=>by
   obtain ⟨a1,a2⟩:=List.pairwise_cons.1 hl
   obtain ⟨b1,b2⟩:=List.pairwise_cons.1 hl'
   have hk:kyA x=kyA y:=by
    have e1:=h (kyA x)
    have e2:=h (kyA y)
    rw [z4_,if_pos rfl,z4_] at e1
    rw [z4_,z4_,if_pos rfl] at e2
    by_cases c:kyA x=kyA y
    ·exact c
    ·rw [if_neg (fun e=>c e.symm)] at e1
     rw [if_neg c] at e2
     have f1:=yG_ e1.symm
     have f2:=yG_ e2
     have g1:=b1 x f1.1
     have g2:=a1 y f2.1
     omega
   have hxy:x=y:=by
    have e1:=h (kyA x)
    rw [z4_,if_pos rfl,z4_,if_pos hk.symm] at e1
    exact Option.some.inj e1
   subst hxy
   rw [wA_ a2 b2 fun k=>?_]
   have e1:=h k
   rw [z4_,z4_] at e1
   by_cases c:kyA x=k
   ·rw [yH_ fun z hz=>by have:=a1 z hz;omega,yH_ fun z hz=>by have:=b1 z hz;omega]
   ·rwa [if_neg c,if_neg c] at e1
def lsK (k:Int):List AC->Option AC
 | []=>none
 | a :: r=>match lsK k r with | some x=>some x | none=>if k=kyA a then some a else none
theorem VK_ (k:Int) (a:AC) (r:List AC):lsK k (a :: r)=match lsK k r with | some x=>some x | none=>if k=kyA a then some a else none:=rfl
def foK (l u:List AC):List AC:=l.foldl (fun z a=>qc_ a z) u
theorem qC_:∀ {l u:List AC},Kx_ u->Kx_ (foK l u)
 | [],_,h=>h
 | _ :: r,_,h=>qC_ (l:=r) (QT_ h)
theorem WK_ (k:Int):∀ {l u:List AC},Kx_ u->gtK k (foK l u)=match lsK k l with | some x=>some x | none=>gtK k u
 | [],_,_=>rfl
 | a :: r,u,h=>by
   have h1:=WK_ k (l:=r) (QT_ (a:=a) h)
   show gtK k (foK r (qc_ a u))=_
   rw [h1,Jv_ k h,VK_]
   cases lsK k r with
   | some x=>rfl
   | none=>
     by_cases c:k=kyA a
     ·rw [if_pos c,if_pos c]
     ·rw [if_neg c,if_neg c]
theorem Uq_ (k:Int):∀ {l:List AC},Kx_ l->lsK k l=gtK k l
 | [],_=>rfl
 | a :: r,h=>by
   obtain ⟨h1,h2⟩:=List.pairwise_cons.1 h
   rw [VK_,Uq_ k h2,z4_]
   by_cases c:k=kyA a
   ·rw [yH_ fun z hz=>by have:=h1 z hz;omega,if_pos c,if_pos c.symm]
   ·rw [if_neg c,if_neg (fun e=>c e.symm)]
    cases gtK k r<;>rfl
theorem VJ_ (k:Int):∀ (l:List AC) (a:AC),lsK k (l++[a])=if k=kyA a then some a else lsK k l
 | [],a=>by
   show (match lsK k [] with | some x=>some x | none=>_)=_
   rfl
 | x :: r,a=>by
   show (match lsK k (r++[a]) with | some y=>some y | none=>if k=kyA x then some x else none)=_
   rw [VJ_ k r a]
   by_cases c:k=kyA a
   ·rw [if_pos c,if_pos c]
   ·rw [if_neg c,if_neg c];rfl
theorem UJ_ {m x:List AC} (h:Kx_ x):foK m (foK m x)=foK m x:=by
 refine wA_ (qC_ (qC_ h)) (qC_ h) fun k=>?_
 rw [WK_ k (qC_ h),WK_ k h]
 cases lsK k m<;>rfl
theorem GU_ {m x:List AC} (h:Kx_ x):foK (foK m []) x=foK m x:=by
 refine wA_ (qC_ h) (qC_ h) fun k=>?_
 rw [WK_ k h,WK_ k h,Uq_ k (qC_ List.Pairwise.nil),WK_ k List.Pairwise.nil]
 cases lsK k m<;>rfl
theorem GV_ (l m u:List AC):foK (l++m) u=foK m (foK l u):=List.foldl_append ..
theorem gU_ {a b:AC} {x:List AC} (h:Kx_ x) (hk:¬ kyA a=kyA b):foK [a,b] x=foK [b,a] x:=by
 refine wA_ (qC_ h) (qC_ h) fun k=>?_
 show gtK k (qc_ b (qc_ a x))=gtK k (qc_ a (qc_ b x))
 rw [Jv_ k (QT_ h),Jv_ k (QT_ h),Jv_ k h,Jv_ k h]
 by_cases c1:k=kyA b
 ·rw [if_pos c1,if_neg (by omega),if_pos c1]
 ·rw [if_neg c1,if_neg c1]
theorem gV_ {m x:List AC} {a:AC} (h:Kx_ x):a ∈ foK (m++[a]) x:=by
 have:=WK_ (kyA a) (l:=m++[a]) h
 rw [VJ_,if_pos rfl] at this
 exact (yG_ this).1
theorem gw_ {l:List AC} (h:setM l):l.length<=51:=by
 have key:∀ (l:List AC) (n:Int),(∀ x ∈ l,n<=kyA x/\kyA x<=50)->Kx_ l->n<=51->(l.length:Int)<=51 - n:=fun l=>by
  induction l with
  | nil=>intro n _ _ h;simp;omega
  | cons x r ih=>
    intro n h1 h2 h3
    obtain ⟨a1,a2⟩:=List.pairwise_cons.1 h2
    have hx:=h1 x (by simp)
    have:=ih (kyA x+1) (fun y hy=>by have:=a1 y hy;have:=h1 y (List.mem_cons_of_mem _ hy);omega) a2 (by omega)
    rw [List.length_cons];omega
 have:=key l 0 (fun x hx=>Gr_ (h.m x hx)) h.s (by decide)
 omega
theorem jW_ {l u:List AC} (h:setM u) (hl:x0_ l):wtL u l=foK l u:=by
 have:=(JP_ (x3_ h hl)).2.2.1
 exact this
def A3:AC:=(0,3,0,(0,0,false,0,[],[],()),[],())
def A4:AC:=(0,4,0,(0,0,false,0,[],[],()),[],())
def A18:AC:=(18,0,0,(0,0,false,0,[],[],()),[],())
def A22:AC:=(22,9,0,(0,0,false,0,[],[],()),[],())
def A0:AC:=(0,0,0,(0,0,false,0,[],[],()),[],())
theorem hJ_:wtL [] [A3,A18,A4]=[A18,A4]/\wtE [] [A3,A18,A4]=0/\wtL [A18,A4] [A22]=[A18,A22,A4]/\wtE [A18,A4] [A22]=0/\wtE [] [A0]=10001:=by decide+kernel
theorem hI_:kG_ [A18,A22,A4]=[A18,A22]/\uC_ [A18,A4]=false/\uC_ [A18]=true:=by decide+kernel
theorem KW_ {l:List AC} (h:∀ x ∈ l,fwA x=true) (hn:l.length<=80):okL l:=(wI_ (by unfold xX_;rw [List.all_eq_true.2 h,Bool.true_and];exact decide_eq_true hn)).1
theorem hH_:okL []/\okL [A3,A18,A4]/\okL [A18,A4]/\okL [A22]/\okL [A0]/\okL [A18,A22,A4]/\okL [A18]:=
 ⟨KW_ (by decide) (by decide),KW_ (by decide) (by decide),KW_ (by decide) (by decide),KW_ (by decide) (by decide),KW_ (by decide) (by decide),KW_ (by decide) (by decide),KW_ (by decide) (by decide)⟩
def YN_:IR:=
(sq (kr [] [oD 0 (.mov cF)])
(sq (kr [] [oD 8 (.build [.int .i64 0,.int .u64 0,.int .u64 0,.int .i64 0,.int .i64 0,.kb false,.int .u64 0,.imm (.int .u8) [],.imm (.int .u8) [],.imm (.int .u8) []] [(1,1,(.c (.int .u64 3)))]),
oD 9 (.build [.int .i64 0,.int .u64 0,.int .u64 0,.int .i64 0,.int .i64 0,.kb false,.int .u64 0,.imm (.int .u8) [],.imm (.int .u8) [],.imm (.int .u8) []] [(0,1,(cI 18))]),
oD 10 (.build [.int .i64 0,.int .u64 0,.int .u64 0,.int .i64 0,.int .i64 0,.kb false,.int .u64 0,.imm (.int .u8) [],.imm (.int .u8) [],.imm (.int .u8) []] [(1,1,(.c (.int .u64 4)))]),
oD 11 (.sliceAll Y2 3 [(0,10,8),(10,10,9),(20,10,10)]),
oC 12 7 [(.c (.imm Y2 [])),11],
oM 7 12,
oX 13 7 0,
oX 14 7 1,
oM 1 13,
oM 2 14])
(sq (kr [1,2] [oM 16 1,
oD 17 (.build [.int .i64 0,.int .u64 0,.int .u64 0,.int .i64 0,.int .i64 0,.kb false,.int .u64 0,.imm (.int .u8) [],.imm (.int .u8) [],.imm (.int .u8) []] [(0,1,(cI 22)),(1,1,(.c (.int .u64 9)))]),
oD 18 (.sliceAll Y2 1 [(0,10,17)]),
oC 19 7 [16,18],
oM 15 19,
oX 20 15 0,
oX 21 15 1,
oM 3 20,
oM 4 21])
(sq (kr [1,2,3,4] [oD 23 (.build [.int .i64 0,.int .u64 0,.int .u64 0,.int .i64 0,.int .i64 0,.kb false,.int .u64 0,.imm (.int .u8) [],.imm (.int .u8) [],.imm (.int .u8) []] []),
oD 24 (.sliceAll Y2 1 [(0,10,23)]),
oC 25 7 [(.c (.imm Y2 [])),24],
oM 22 25,
oX 26 22 0,
oX 27 22 1,
oM 5 26,
oM 6 27])
(sq (kd [1,2,3,4,6] [(oM 28 2,[]),
(oB 29 .eql 28 (cI 0),[]),
(oM 30 29,[]),
(oT 30 31 (.mov 1),[]),
(oT 30 32 (.build [.int .i64 0,.int .u64 0,.int .u64 0,.int .i64 0,.int .i64 0,.kb false,.int .u64 0,.imm (.int .u8) [],.imm (.int .u8) [],.imm (.int .u8) []] [(0,1,(cI 18))]),[0]),
(oT 30 33 (.build [.int .i64 0,.int .u64 0,.int .u64 0,.int .i64 0,.int .i64 0,.kb false,.int .u64 0,.imm (.int .u8) [],.imm (.int .u8) [],.imm (.int .u8) []] [(1,1,(.c (.int .u64 4)))]),[0,0]),
(oT 30 34 (.sliceAll Y2 2 [(0,10,32),(10,10,33)]),[2]),
(oT 30 35 (.call false (.f 8) [31,34]),[]),
(oP 36 30 35 cF,[]),
(oM 37 36,[]),
(oT 37 38 (.mov 4),[]),
(oT 37 39 (.bin .eql 38 (cI 0)),[]),
(oP 40 37 39 cF,[]),
(oM 41 40,[]),
(oT 41 42 (.mov 3),[]),
(oT 41 43 (.len 42),[]),
(oT 41 44 (.bin .eql 43 (cI 3)),[]),
(oP 45 41 44 cF,[]),
(oM 46 45,[]),
(oT 46 47 (.mov 3),[]),
(oT 46 48 (.call false (.f 10) [47]),[]),
(oT 46 49 (.mov 3),[0,0]),
(oT 46 50 (.slice 10 49 none (some (cI 2)) none),[1,0]),
(oT 46 51 (.call false (.f 8) [48,50]),[]),
(oP 52 46 51 cF,[]),
(oM 53 52,[]),
(oT 53 54 (.mov 1),[]),
(oT 53 55 (.call false (.f 13) [54]),[]),
(oT 53 56 (.un .not 55),[]),
(oP 57 53 56 cF,[]),
(oM 58 57,[]),
(oT 58 59 (.mov 1),[]),
(oT 58 60 (.slice 10 59 none (some (cI 1)) none),[]),
(oT 58 61 (.call false (.f 13) [60]),[]),
(oP 62 58 61 cF,[]),
(oM 63 62,[]),
(oT 63 64 (.mov 6),[]),
(oT 63 65 (.bin .eql 64 (cI 10001)),[]),
(oP 66 63 65 cF,[]),
(oM 0 66,[])])
.ret)))))
def Yh_:List RD:=[.tmp 0 true none]
theorem Yt_:zs_ Tryd.prog Tryd.f6 YN_ Yh_=true:=by kernel_rfl
def ks_:List AV->List Obj->Option (Prop × AV)
 | [],[]=>some ((True,.bool true))
 | _,_=>none
theorem jp_:zg_ Tryd.prog 6 (RoF ks_).sum:=by
 refine zm_ Tryd.func6 Yt_ (zc_ (s:=RoF Zu_) qp_ (zc_ (s:=RoF Qj_) Q9_ (zc_ (s:=RoF qD_) kz_ (zc_ (s:=RoF Qm_) Je_ (ze_ _))))) fun args objs p v e=>?_
 unfold ks_ at e
 split at e
 ·cases e
  refine ⟨rfl,fun hw ho hp=>?_⟩
  clear hw ho
  obtain ⟨w1,w2,w3,w4,w5⟩:=hJ_
  obtain ⟨w6,w7,w8⟩:=hI_
  obtain ⟨k1,k2,k3,k4,k5,k6,k7⟩:=hH_
  unfold A3 A4 A18 A22 A0 at*
  repeat'(intro t ht;first|(cases t<;>first|(cases ht;done)|(try simp only[zh_]at ht))|((first|refine zb_ ht ?_|refine ht ?_ ?_|refine ht.1 ?_ ?_|refine ht ?_)<;>clear ht))
  all_goals (try simp only [w1,w2,w3,w4,w5,w6,w7,w8,List.length_cons,List.length_nil,reduceCtorEq,not_true_eq_false] at*)
  all_goals first
   | exact True.intro
   | contradiction
   | exact ⟨k1,k2,by decide,by decide⟩
   | exact ⟨k3,k4,by decide,by decide⟩
   | exact ⟨k1,k5,by decide,by decide⟩
   | exact k6
   | exact k3
   | exact k7
   | exact (by decide)
   | omega
   | exact ⟨rfl,by first | rfl | exact True.intro⟩
 ·cases e
end Go.Eng
