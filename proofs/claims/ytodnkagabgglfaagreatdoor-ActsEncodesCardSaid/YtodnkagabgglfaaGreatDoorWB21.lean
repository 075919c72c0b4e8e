/- Parts of the proof: HI, HJ. No condition. -/
import Derived.Test.YtodnkagabgglfaaGreatDoorProg
import Derived.Test.YtodnkagabgglfaaGreatDoorWB10
import Derived.KernelRfl
import Derived.Test.YtodnkagabgglfaaGreatDoorWB20
import Derived.Test.YtodnkagabgglfaaGreatDoorWB18
namespace Go.Eng
open Go.Proofs
set_option linter.unusedVariables false
set_option linter.unusedSimpArgs false
set_option maxRecDepth 100000
set_option maxHeartbeats 1000000
def vl_ {α:Type} (l:List α) (i:Int):List α:=(l.drop (i+1).toNat).reverse
theorem zeL_ {α:Type} (l:List α):vl_ l ((l.length:Int) - 1)=[]:=by
 unfold vl_;rw [Int.sub_add_cancel,Int.toNat_natCast,List.drop_length];rfl
theorem zbv_ {α:Type} (l:List α) {i:Int} (h:i < 0) (h1:-1<=i):vl_ l i=l.reverse:=by
 unfold vl_;rw [show (i+1).toNat=0 by omega];rfl
theorem zam_ {α:Type} {l:List α} {i:Int} (h0:0<=i) (h:i < l.length) (d:α):vl_ l i++[l.getD i.toNat d]=vl_ l (i - 1):=by
 unfold vl_
 rw [show (i+1).toNat=i.toNat+1 by omega,show (i - 1+1).toNat=i.toNat by omega,zz_ (show i.toNat < l.length by omega) d,List.reverse_cons]
theorem zbu_ {α:Type} (l:List α) (i:Int):(vl_ l i).length<=l.length:=by
 unfold vl_;rw [List.length_reverse,List.length_drop];omega
def Bf_ (l:List AC) (y:Int):Bool:=l.any fun a=>decide (a.1=0) && decide (a.2.1=y)
theorem za4_ {l:List AC} {j:Nat} {y:Int} (h:j < l.length) (d:AC):Bf_ (l.take (j+1)) y=(Bf_ (l.take j) y || (decide ((l.getD j d).1=0) && decide ((l.getD j d).2.1=y))):=by
 unfold Bf_
 rw [<- Wo_ (d:=d) h,List.any_append,List.any_cons,List.any_nil,Bool.or_false]
theorem zc0_ {l:List AC} {y:Int} (h:y ∈ poA l):Bf_ l y=true:=by
 obtain ⟨a,h1,h2,h3⟩:=BC_.1 h
 unfold Bf_
 rw [List.any_eq_true]
 exact ⟨a,h1,by rw [h2,h3];simp⟩
theorem zeF_ {o:List Int} {k:Nat} (h:Sst o) (h0:0 < k) (hk:k < o.length):¬ o.getD k 0<=o.getD (k - 1) 0:=by
 have:=(List.pairwise_iff_getElem.1 h) (k - 1) k (by omega) hk (by omega)
 rw [List.getD_eq_getElem?_getD,List.getD_eq_getElem?_getD,List.getElem?_eq_getElem hk,List.getElem?_eq_getElem (show k - 1 < o.length by omega)]
 show ¬ o[k]<=o[k - 1]
 omega
def yo_:IR:=
(sq (kr [0] [oD 2 (.mov cF)])
(sq (sq (.reg [oM 11 0,
oC 12 7 [11],
oD 13 (.un .not 12)])
(.cond 13
(sq (.reg [oC 14 8 [],
oM 2 14])
.ret)
.skip))
(sq (kr [0] [oM 15 0,
oC 16 19 [15],
oM 3 16])
(sq (.reg [oD 4 (.nilrow Y2)])
(sq (sq (.reg [oM 17 0,
oE 18 17,
oB 19 .sub 18 (cI 1),
oM 5 19])
(.block 0
(.loop
(sq (sq (kr [0,3,4,5] [oM 20 5,
oB 21 .geq 20 (cI 0)])
(.cond 21
.skip
(.exit 0)))
(sq (.block 1
(sq (kr [0,3,4,5] [oM 24 4,
oM 25 0,
oM 26 5,
oI 27 10 25 26,
oK 28 10 27,
oD 29 (.sliceAll Y2 1 [(0,10,28)]),
oD 30 (.append Y2 128 24 29),
oM 4 30])
(sq (sq (kr [0,3,4,5] [oM 31 0,
oM 32 5,
oI 33 10 31 32,
oA 34 0 33,
oL 35 34,
oB 36 .neq 35 (cI 0)])
(.cond 36
(.exit 1)
.skip))
(sq (kr [0,3,4,5] [oD 6 (.mov cF)])
(sq (sq (.reg [oD 7 (.mov (cI 0))])
(.block 2
(.loop
(sq (sq (kr [0,3,4,5,6,7] [oM 37 7,
oM 38 3,
oE 39 38,
oB 40 .lss 37 39])
(.cond 40
.skip
(.exit 2)))
(sq (.block 3
(kd [0,3,4,5,6,7] [(oM 43 6,[]),
(oM 44 43,[]),
(oF 44 45 (.mov 3),[]),
(oF 44 46 (.mov 7),[0]),
(oF 44 47 (.indexSl 1 45 46),[]),
(oF 44 48 (.load none 47),[]),
(oF 44 49 (.mov 0),[0,0,0,0]),
(oF 44 50 (.mov 5),[0,0,0,0,0]),
(oF 44 51 (.indexSl 10 49 50),[2,0,0,0]),
(oF 44 52 (.fieldAddr 1 51),[3,0,0,0]),
(oF 44 53 (.load none 52),[4,0,0,0]),
(oF 44 54 (.bin .eql 48 53),[]),
(oP 55 44 cT 54,[]),
(oM 6 55,[])]))
(kr [0,3,4,5,6,7] [oM 41 7,
oB 42 .add 41 (cI 1),
oM 7 42]))))))
(sq (kr [0,3,4,5,6] [oM 56 6,
oD 57 (.un .not 56)])
(.cond 57
(sq (.reg [oD 2 (.mov cF)])
.ret)
.skip)))))))
(kr [0,3,4,5] [oM 22 5,
oB 23 .sub 22 (cI 1),
oM 5 23]))))))
(sq (sq (kr [0,3,4] [oD 8 (.mov (cI 0))])
(.block 4
(.loop
(sq (sq (kr [0,3,4,8] [oM 58 8,
oM 59 3,
oE 60 59,
oB 61 .lss 58 60])
(.cond 61
.skip
(.exit 4)))
(sq (.block 5
(sq (.reg [oD 9 (.mov cF)])
(sq (sq (.reg [oD 10 (.mov (cI 0))])
(.block 6
(.loop
(sq (sq (kr [0,3,4,8,9,10] [oM 64 10,
oM 65 0,
oE 66 65,
oB 67 .lss 64 66])
(.cond 67
.skip
(.exit 6)))
(sq (.block 7
(kd [0,3,4,8,9,10] [(oM 70 9,[]),
(oM 71 70,[]),
(oF 71 72 (.mov 0),[]),
(oF 71 73 (.mov 10),[0]),
(oF 71 74 (.indexSl 10 72 73),[]),
(oF 71 75 (.fieldAddr 0 74),[]),
(oF 71 76 (.load none 75),[]),
(oF 71 77 (.bin .eql 76 (cI 0)),[]),
(oF 71 78 (.mov 77),[]),
(oT 78 79 (.mov 0),[]),
(oT 78 80 (.mov 10),[0]),
(oT 78 81 (.indexSl 10 79 80),[]),
(oT 78 82 (.fieldAddr 1 81),[]),
(oT 78 83 (.load none 82),[]),
(oT 78 84 (.mov 3),[0,0,0,0,0]),
(oT 78 85 (.mov 8),[0,0,0,0,0,0]),
(oT 78 86 (.indexSl 1 84 85),[2,0,0,0,0]),
(oT 78 87 (.load none 86),[3,0,0,0,0]),
(oT 78 88 (.bin .eql 83 87),[]),
(oF 71 89 (.pick 78 88 cF),[]),
(oP 90 71 cT 89,[]),
(oM 9 90,[])]))
(kr [0,3,4,8,9,10] [oM 68 10,
oB 69 .add 68 (cI 1),
oM 10 69]))))))
(sq (kd [0,3,4,8,9] [(oM 91 9,[]),
(oD 92 (.un .not 91),[]),
(oM 93 92,[]),
(oF 93 94 (.mov 8),[]),
(oF 93 95 (.bin .gtr 94 (cI 0)),[]),
(oF 93 96 (.mov 95),[]),
(oT 96 97 (.mov 3),[]),
(oT 96 98 (.mov 8),[0]),
(oT 96 99 (.indexSl 1 97 98),[]),
(oT 96 100 (.load none 99),[]),
(oT 96 101 (.mov 3),[0,0,0,0]),
(oT 96 102 (.mov 8),[0,0,0,0,0]),
(oT 96 103 (.bin .sub 102 (cI 1)),[1,0,0,0,0]),
(oT 96 104 (.indexSl 1 101 103),[3,0,0,0]),
(oT 96 105 (.load none 104),[4,0,0,0]),
(oT 96 106 (.bin .leq 100 105),[]),
(oF 93 107 (.pick 96 106 cF),[]),
(oP 108 93 cT 107,[])])
(.cond 108
(sq (kr [] [oD 2 (.mov cF)])
.ret)
.skip)))))
(kr [0,3,4,8] [oM 62 8,
oB 63 .add 62 (cI 1),
oM 8 63]))))))
(sq (kr [3,4] [oM 109 4,
oC 110 19 [109],
oM 111 3,
oC 112 18 [110,111],
oM 113 112,
oT 113 114 (.call false (.f 8) []),
oP 115 113 114 cF,
oM 2 115])
.ret)))))))
def X5_:List RD:=[.tmp 2 true none]
theorem yf_:zl_ Tryz.prog Tryz.f4 yo_ X5_=true:=by kernel_rfl
def Kb_:List AV->List Obj->Option (Prop × AV)
 | [.imm ty0 l],[]=>ja_ ty0 Y2 l fun l=>some ((True,.bool true))
 | _,_=>none
theorem x5_:ze_ Tryz.prog 4 (RoF Kb_).sum:=by
 refine zm_ Tryz.func4 yf_ (zb_ (s:=RoF WH_) y0_ (zb_ (s:=RoF JD_) x4_ (zb_ (s:=RoF Q4_) KJ_ (zb_ (s:=RoF KU_) j2_ (zd_ _))))) fun args objs p v e=>?_
 unfold Kb_ at e
 split at e
 ·rename_i ty0 l
  obtain rfl:=QW_ e
  replace e:=QX_ e
  cases e
  refine ⟨rfl,fun hw ho hp=>?_⟩
  change List AC at l
  clear hw ho
  cases hf:Ht_ l with
  | false=>
    repeat'(intro t ht;first|(cases t<;>first|(cases ht;done)|(try simp only[zh_]at ht;try(exfalso;first|contradiction|omega)))|((first|refine za_ ht ?_|refine ht ?_ ?_|refine ht.1 ?_ ?_|refine ht ?_)<;>clear ht))
    all_goals first
     | exact True.intro
     | exact ⟨rfl,rfl⟩
     | (exfalso;simp_all;done)
  | true=>
    have hl:=(Gu_ hf).2
    have hS:Sst (poA l):=Wr_ _
    have hpl:=zdv_ l
    have hrv:=zdu_ l
    repeat'(intro t ht;first|(cases t<;>first|(cases ht;done)|(try simp only[zh_]at ht;try(exfalso;first|contradiction|omega)))|((first|refine za_ ht ?_|refine ht ?_ ?_|refine ht.1 ?_ ?_|refine ht ?_)<;>clear ht))
    all_goals first
     | exact True.intro
     | omega
     | (exfalso;simp_all;done)
     | ((try dsimp only);simp only [zi_];omega)
     | exact (show l.length<=60000 by omega)
     | (intro r h1 h2;clear h1;refine h2 ⟨[0,3,4,5],Int,(fun i=>-1<=i/\i < l.length),fun i=>[.imm Y2 l,.imm (.int .u64) (poA l),.own 0,.int .i64 i],fun i=>[.row false Y2 (vl_ l i)],fun i=>(i+1).toNat,⟨(l.length:Int) - 1,⟨by omega,by omega⟩,rfl,(by dsimp only;rw [zeL_])⟩,?_⟩;clear h2)
    rintro i ⟨hi1,hi2⟩
    have hrl:=zbu_ l i
    have hrs:=fun h=>zam_ (l:=l) (i:=i) h hi2 (Y2).dflt
    have hre:=fun h=>zbv_ l (i:=i) h hi1
    have hin:(l.getD i.toNat (Y2).dflt).1=0->0<=i->(l.getD i.toNat (Y2).dflt).2.1 ∈ poA l:=fun h0 h1=>BC_.2 ⟨_,zZ_ (show i.toNat < l.length by omega) _,h0,rfl⟩
    repeat'(intro t ht;first|(cases t<;>first|(cases ht;done)|(try simp only[zh_]at ht;try(exfalso;first|contradiction|omega)))|((first|refine za_ ht ?_|refine ht ?_ ?_|refine ht.1 ?_ ?_|refine ht ?_)<;>clear ht))
    all_goals first
     | exact True.intro
     | omega
     | ((try dsimp only);constructor<;>omega)
     | ((try dsimp only);simp only [zi_];omega)
     | ((try dsimp only);simp only [List.length_cons,List.length_nil];constructor<;>omega)
     | (refine ⟨i - 1,⟨?_,?_⟩,?_,rfl,congrArg (fun x=>[Obj.row false _ x]) (hrs (by omega))⟩
        ·omega
        ·omega
        ·(try dsimp only);omega)
     | (intro r h1 h2;clear h1;refine h2 ⟨[0,3,4,5,6,7],Nat,(fun k=>k<=(poA l).length),fun k=>[.imm Y2 l,.imm (.int .u64) (poA l),.own 0,.int .i64 i,.bool (Vy_ ((poA l).take k) (l.getD i.toNat (Y2).dflt).2.1),.int .i64 k],fun k=>[.row false Y2 (vl_ l (i - 1))],fun k=>(poA l).length - k,⟨0,Nat.zero_le _,rfl,congrArg (fun x=>[Obj.row false _ x]) (hrs (by omega))⟩,?_⟩;clear h2)
     | (intro r h1 h2;clear h1;refine h2 ⟨[0,3,4,8],Nat,(fun k=>k<=(poA l).length),fun k=>[.imm Y2 l,.imm (.int .u64) (poA l),.own 0,.int .i64 k],fun k=>[.row false Y2 l.reverse],fun k=>(poA l).length - k,⟨0,Nat.zero_le _,rfl,congrArg (fun x=>[Obj.row false _ x]) (hre (by omega))⟩,?_⟩;clear h2)
    ·rintro k hk
     repeat'(intro t ht;first|(cases t<;>first|(cases ht;done)|(try simp only[zh_]at ht;try(exfalso;first|contradiction|omega)))|((first|refine za_ ht ?_|refine ht ?_ ?_|refine ht.1 ?_ ?_|refine ht ?_)<;>clear ht))
     all_goals (try simp only [Int.toNat_natCast] at*)
     all_goals first
      | exact True.intro
      | omega
      | ((try dsimp only);constructor<;>omega)
      | ((try dsimp only);simp only [zi_];omega)
      | exact (show l.reverse.length<=60000 by rw [List.length_reverse];omega)
      | exact ⟨rfl,rfl⟩
      | (intro r h1 h2;clear h1;refine h2 ⟨[0,3,4,8,9,10],Nat,(fun j=>j<=l.length),fun j=>[.imm Y2 l,.imm (.int .u64) (poA l),.own 0,.int .i64 k,.bool (Bf_ (l.take j) ((poA l).getD k 0)),.int .i64 j],fun j=>[.row false Y2 l.reverse],fun j=>l.length - j,⟨0,Nat.zero_le _,rfl,rfl⟩,?_⟩;clear h2)
     rintro j hj
     have h1:=fun h=>za4_ (l:=l) (j:=j) (y:=(poA l).getD k 0) h (Y2).dflt
     have h9:=fun h:l.length<=j=>List.take_of_length_le h
     have h8:=fun h:k < (poA l).length=>zc0_ (l:=l) (zZ_ h 0)
     have h7:=fun h0 h=>zeF_ (k:=k) hS h0 h
     repeat'(intro t ht;first|(cases t<;>first|(cases ht;done)|(try simp only[zh_]at ht;try(exfalso;first|contradiction|omega)))|((first|refine za_ ht ?_|refine ht ?_ ?_|refine ht.1 ?_ ?_|refine ht ?_)<;>clear ht))
     all_goals (try simp only [Int.toNat_natCast] at*)
     all_goals (try rename Bf_ _ _=_=>hany)
     all_goals first
      | exact True.intro
      | omega
      | ((try dsimp only);constructor<;>omega)
      | ((try dsimp only);simp only [zi_];omega)
      | (refine ⟨k+1,?_,?_,rfl,by first | rfl | exact True.intro⟩
         ·(try dsimp only);omega
         ·(try dsimp only);omega)
      | (have e1:=h1 (by omega)
         refine ⟨j+1,?_,?_,?_,by first | rfl | exact True.intro⟩
         ·(try dsimp only);omega
         ·(try dsimp only);omega
         ·(try dsimp only)
          first
           | (rw [e1,hany,decide_eq_true ht];rfl)
           | (rw [e1,hany,decide_eq_false ht];rfl)
           | (rw [e1,hany];rfl))
      | (rw [h9 (by omega),h8 (by omega)] at hany;cases hany;done)
      | (rw [show ((k:Int) - 1).toNat=k - 1 by omega] at ht;exact absurd ht (h7 (by omega) (by omega)))
    ·rintro k hk
     have h1:=fun h=>UK_ (o:=poA l) (k:=k) (x:=(l.getD i.toNat (Y2).dflt).2.1) h
     have h9:=fun h:(poA l).length<=k=>List.take_of_length_le h
     repeat'(intro t ht;first|(cases t<;>first|(cases ht;done)|(try simp only[zh_]at ht;try(exfalso;first|contradiction|omega)))|((first|refine za_ ht ?_|refine ht ?_ ?_|refine ht.1 ?_ ?_|refine ht ?_)<;>clear ht))
     all_goals (try simp only [Int.toNat_natCast] at*)
     all_goals (try rename Vy_ _ _=_=>hany)
     all_goals first
      | exact True.intro
      | omega
      | ((try dsimp only);constructor<;>omega)
      | ((try dsimp only);simp only [zi_];omega)
      | (have e1:=h1 (by omega)
         refine ⟨k+1,?_,?_,?_,by first | rfl | exact True.intro⟩
         ·(try dsimp only);omega
         ·(try dsimp only);omega
         ·(try dsimp only);rw [e1,hany];rfl)
      | (refine ⟨i - 1,⟨?_,?_⟩,?_,rfl,by first | rfl | exact True.intro⟩
         ·omega
         ·omega
         ·(try dsimp only);omega)
      | (rw [h9 (by omega),(Vx_ _ _).2 (hin (by assumption) (by omega))] at hany;cases hany)
 ·cases e
def xv_:IR:=
(sq (kr [0,1] [oD 4 (.mov cF)])
(sq (sq (kr [0,1] [oM 12 0,
oC 13 7 [12],
oD 14 (.un .not 13),
oM 15 14,
oF 15 16 (.mov 1),
oF 15 17 (.len 16),
oF 15 18 (.bin .gtr 17 (cI 100)),
oP 19 15 cT 18])
(.cond 19
(sq (kr [] [oC 20 8 [],
oM 4 20])
.ret)
.skip))
(sq (kr [0,1] [oM 22 0,
oC 23 9 [22],
oM 21 23,
oX 24 21 0,
oX 25 21 1,
oM 5 24,
oM 6 25])
(sq (kr [0,1,5,6] [oM 27 0,
oC 28 10 [27],
oM 26 28,
oX 29 26 0,
oX 30 26 1,
oM 7 29,
oM 8 30])
(sq (kr [0,1,5,6,7,8] [oC 31 11 [(cI 100000)],
oM 9 31])
(sq (.reg [oM 32 9,
oM 33 1,
oC 34 12 [32,33]])
(sq (.reg [oM 35 9,
oM 36 0,
oC 37 13 [35,36]])
(sq (kr [0,1,5,6,7,8,9] [oM 39 9,
oC 40 14 [39],
oM 38 40,
oX 41 38 0,
oX 42 38 1,
oM 10 41,
oM 11 42])
(sq (sq (kr [0,1,5,6,7,8,10,11] [oM 43 0,
oC 44 15 [43],
oM 45 8,
oB 46 .eql 45 (cI 0),
oD 47 (.eqb true 44 46),
oM 48 47,
oF 48 49 (.mov 0),
oF 48 50 (.call false (.f 16) [49]),
oF 48 51 (.mov 7),
oF 48 52 (.len 51),
oF 48 53 (.bin .neq 50 52),
oP 54 48 cT 53,
oM 55 54,
oF 55 56 (.mov 5),
oF 55 57 (.mov 7),
oF 55 58 (.call false (.f 17) [56,57]),
oF 55 59 (.un .not 58),
oP 60 55 cT 59,
oM 61 60,
oF 61 62 (.mov 6),
oF 61 63 (.mov 8),
oF 61 64 (.bin .neq 62 63),
oP 65 61 cT 64,
oM 66 65,
oF 66 67 (.mov 11),
oF 66 68 (.mov 8),
oF 66 69 (.bin .neq 67 68),
oP 70 66 cT 69,
oM 71 70,
oF 71 72 (.mov 0),
oF 71 73 (.call false (.f 19) [72]),
oF 71 74 (.mov 0),
oF 71 75 (.call false (.f 20) [74]),
oF 71 76 (.call false (.f 18) [73,75]),
oF 71 77 (.un .not 76),
oP 78 71 cT 77])
(.cond 78
(sq (kr [] [oD 4 (.mov cF)])
.ret)
.skip))
(sq (kr [1,7,8,10] [oM 79 8,
oB 80 .neq 79 (cI 0),
oM 81 80,
oF 81 82 (.mov 10),
oF 81 83 (.slice0 (.int .u8)),
oF 81 84 (.mov 1),
oF 81 85 (.append (.int .u8) 1 83 84),
oF 81 86 (.mov 7),
oF 81 87 (.append (.int .u8) 1 85 86),
oF 81 88 (.call false (.f 17) [82,87]),
oP 89 81 cT 88,
oM 90 89,
oT 90 91 (.call false (.f 8) []),
oP 92 90 91 cF,
oM 4 92])
.ret))))))))))
def xh_:List RD:=[.tmp 4 true none]
theorem xn_:zl_ Tryz.prog Tryz.f3 xv_ xh_=true:=by kernel_rfl
def Q1_:List AV->List Obj->Option (Prop × AV)
 | [.imm ty0 l,.imm (.int .u8) b],[]=>ja_ ty0 Y2 l fun l=>some ((True,.bool true))
 | _,_=>none
theorem WN_:ze_ Tryz.prog 3 (RoF Q1_).sum:=by
 refine zm_ Tryz.func3 xn_ (zb_ (s:=RoF WH_) y0_ (zb_ (s:=RoF JD_) x4_ (zb_ (s:=RoF kK_) JK_ (zb_ (s:=RoF Jw_) Y6_ (zb_ (s:=RwF q1_) QJ_ (zb_ (s:=RwF zx_) zD_ (zb_ (s:=RwF JH_) x6_ (zb_ (s:=RwF z2_) Zx_ (zb_ (s:=RoF Kz_) wA_ (zb_ (s:=RoF kZ_) jj_ (zb_ (s:=RoF jd_) W0_ (zb_ (s:=RoF Q4_) KJ_ (zb_ (s:=RoF Wb_) VL_ (zb_ (s:=RoF KU_) j2_ (zd_ _))))))))))))))) fun args objs p v e=>?_
 unfold Q1_ at e
 split at e
 ·rename_i ty0 l b
  obtain rfl:=QW_ e
  replace e:=QX_ e
  cases e
  refine ⟨rfl,fun hw ho hp=>?_⟩
  change List Int at b
  change List AC at l
  clear hw ho
  cases hf:Ht_ l with
  | false=>
    repeat'(intro t ht;first|(cases t<;>first|(cases ht;done)|(try simp only[zh_]at ht;try(exfalso;first|contradiction|omega)))|((first|refine za_ ht ?_|refine ht ?_ ?_|refine ht.1 ?_ ?_|refine ht ?_)<;>clear ht))
    all_goals first
     | exact True.intro
     | exact ⟨rfl,rfl⟩
     | (exfalso;simp_all;done)
  | true=>
    by_cases hbl:b.length<=100
    ·obtain ⟨hok,hl80⟩:=Gu_ hf
     cases hr:rgL l with
     | false=>
       have e1:alL l=[]:=by unfold alL;rw [hr];rfl
       have e2:alE l=10001:=by unfold alE;rw [hr];rfl
       have hz:=zeD_ hr
       have hroom:W3_ 100000=100000:=by decide
       obtain ⟨b1,b2⟩:=xF_ (x:=b) (l:=[]) (room:=100000) (by simp only [List.length_nil];omega)
       rw [List.nil_append] at b1
       obtain ⟨m1,m2⟩:=zcZ_ (x:=l) (l:=b) (room:=100000) (e:=0) hr
       have f1:Zh_ 0 10001=10001:=rfl
       have dE:XA_ [] 10001=10001:=rfl
       repeat'(intro t ht;first|(cases t<;>first|(cases ht;done)|(try simp only[zh_]at ht))|((first|refine za_ ht ?_|refine ht ?_ ?_|refine ht.1 ?_ ?_|refine ht ?_)<;>clear ht))
       all_goals (try simp only [hf,hr,e1,e2,hz,hroom,b1,b2,m1,m2,f1,dE] at*)
       all_goals first
        | exact True.intro
        | contradiction
        | exact hok
        | exact ⟨by decide,by decide,by decide,by omega⟩
        | exact ⟨hok,by decide,by decide,by omega⟩
        | omega
        | exact ⟨rfl,by first | rfl | exact True.intro⟩
        | exact ⟨True.intro,True.intro⟩
        | exact (show l.length<=60000 by omega)
        | (constructor<;>(try simp only [List.length_nil])<;>omega)
        | (rw [List.length_append];omega)
        | (constructor<;>omega)
        | (exfalso;omega)
        | (exfalso;simp_all;done)
     | true=>
       obtain ⟨h1,h2,h3,h4⟩:=ki_ hr
       have e1:alL l=boA l:=if_pos hr
       have e2:alE l=0:=if_pos hr
       have hroom:W3_ 100000=100000:=by decide
       obtain ⟨b1,b2⟩:=xF_ (x:=b) (l:=[]) (room:=100000) (by simp only [List.length_nil];omega)
       rw [List.nil_append] at b1
       obtain ⟨m1,m2⟩:=zeu_ (x:=l) (l:=b) (room:=100000) hr (by omega)
       have dE:XA_ [] 0=0:=rfl
       have dL:Xz_ (b++boA l) [] 0=b++boA l:=rfl
       repeat'(intro t ht;first|(cases t<;>first|(cases ht;done)|(try simp only[zh_]at ht))|((first|refine za_ ht ?_|refine ht ?_ ?_|refine ht.1 ?_ ?_|refine ht ?_)<;>clear ht))
       all_goals (try simp only [hf,hr,e1,e2,h4,hroom,b1,b2,m1,m2,dE,dL] at*)
       all_goals first
        | exact True.intro
        | contradiction
        | exact hok
        | exact ⟨by decide,by decide,by decide,by omega⟩
        | exact ⟨hok,by decide,by decide,by omega⟩
        | omega
        | exact ⟨rfl,by first | rfl | exact True.intro⟩
        | exact ⟨True.intro,True.intro⟩
        | exact (show l.length<=60000 by omega)
        | (constructor<;>(try simp only [List.length_nil])<;>omega)
        | (rw [List.length_append];omega)
        | (simp only [ZF_,List.length_append,List.length_nil,Nat.zero_add];constructor<;>omega)
        | (exfalso;omega)
        | (exfalso;simp_all;done)
        | ((try simp only [zn_,zo_,zi_] at*);omega)
    ·repeat'(intro t ht;first|(cases t<;>first|(cases ht;done)|(try simp only[zh_]at ht;try(exfalso;first|contradiction|omega)))|((first|refine za_ ht ?_|refine ht ?_ ?_|refine ht.1 ?_ ?_|refine ht ?_)<;>clear ht))
     all_goals first
      | exact True.intro
      | exact ⟨rfl,rfl⟩
      | (exfalso;omega)
      | (exfalso;simp_all;done)
 ·cases e
end Go.Eng
