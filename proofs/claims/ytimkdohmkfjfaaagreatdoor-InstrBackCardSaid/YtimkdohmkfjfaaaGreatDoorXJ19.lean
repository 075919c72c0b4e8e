/- Parts of the proof: I5, I6, I7, I8, I9, DE, IA, IB, X2, M9, MA, XG, DH. No condition. -/
import Derived.Test.YtimkdohmkfjfaaaGreatDoorProg
import Derived.Test.YtimkdohmkfjfaaaGreatDoorXJ11
import Derived.KernelRfl
import Derived.Test.YtimkdohmkfjfaaaGreatDoorXJ18
import Derived.Test.YtimkdohmkfjfaaaGreatDoorXJ17
namespace Go.Eng
open Go.Proofs
set_option linter.unusedVariables false
set_option linter.unusedSimpArgs false
set_option maxRecDepth 100000
set_option maxHeartbeats 1000000
def vh_:IR:=
(sq (kr [] [oD 0 (.box [.int .i64 0,.int .i64 0,.kb false,.int .i64 0,.int .i64 0])])
(sq (.reg [oD 1 (.build [.int .i64 0,.int .i64 0,.kb false,.int .i64 0,.int .i64 0] [(0,1,(cI 8)),(1,1,(cI 8)),(3,1,(cI 776)),(4,1,(cI 776))]),
oS 5 0 1])
.ret))
def Yy_:List RD:=[.cell 0 (some 5) true []]
theorem YT_:zl_ Tryz.prog Tryz.f63 vh_ Yy_=true:=by kernel_rfl
def q6_:List AV->List Obj->Option (Prop × AV)
 | [],[]=>some ((True,.agg [.int .i64 8,.int .i64 8,.bool false,.int .i64 776,.int .i64 776]))
 | _,_=>none
theorem kw_:zf_ Tryz.prog 63 (RoF q6_).sum:=by
 refine zj_ Tryz.func63 YT_ (ze_ _) fun args objs p v e=>?_
 unfold q6_ at e
 split at e
 ·cases e
  refine ⟨rfl,fun hw ho hp=>?_⟩
  repeat'(intro t ht;first|(cases t<;>first|(cases ht;done)|(try simp only[zh_]at ht;try(exfalso;first|contradiction|omega)))|((first|refine zb_ ht ?_|refine ht ?_ ?_|refine ht.1 ?_ ?_|refine ht ?_)<;>clear ht))
  all_goals first
   | exact True.intro
   | exact ⟨rfl,rfl⟩
 ·cases e
theorem zdO_ (l:List VIn):jnB (l.map itI)=boI l:=by
 unfold jnB boI;rw [List.flatMap_map];rfl
theorem zdA_ {l:List VIn} (h:gdL [] l=true) (hn:l.length<=1000):okJ (l.map itI):=by
 refine ⟨fun x hx=>?_,by rw [List.length_map];exact hn⟩
 obtain ⟨i,hi,rfl⟩:=List.mem_map.1 hx
 obtain ⟨y,hy⟩:=Option.isSome_iff_exists.1 (yZ_ h i hi)
 obtain ⟨b1,b2,b3⟩:=H2_ hy
 have hk:=zc1_ (w7_.1 hy).k
 have e:(itI i).2.1=y:=vX_ hy
 rw [e]
 exact ⟨hk,b1,b2,by omega⟩
theorem zeD_ {l:List VIn} (h:gdL [] l=false):ieL l=[]/\ieE l=10001:=by
 have:rgI l=false:=by unfold rgI;rw [h];rfl
 unfold ieL ieE;rw [this];exact ⟨rfl,rfl⟩
theorem zcq_ {l:List VIn} (h:65528 < (boI l).length):ieL l=[]/\ieE l=10001:=by
 have:rgI l=false:=by unfold rgI;rw [decide_eq_false (by omega),Bool.and_false]
 unfold ieL ieE;rw [this];exact ⟨rfl,rfl⟩
theorem zeC_ {l:List VIn} (h:gdL [] l=true) (h2:¬ 65528 < (boI l).length):ieL l=boI l/\ieE l=0:=by
 have:rgI l=true:=by unfold rgI;rw [h,decide_eq_true (by omega)];rfl
 unfold ieL ieE;rw [this];exact ⟨rfl,rfl⟩
def yJ_:IR:=
(sq (kr [0] [oD 2 (.mov (.c (.imm (.int .u8) []))),
oD 3 (.mov (cI 0))])
(sq (kr [0] [oM 9 0,
oC 10 61 [9],
oM 8 10,
oX 11 8 0,
oX 12 8 1,
oM 4 11,
oM 5 12])
(sq (sq (kr [4,5] [oM 13 5,
oD 14 (.un .not 13)])
(.cond 14
(sq (.reg [oD 2 (.mov (.c (.imm (.int .u8) []))),
oD 3 (.mov (cI 10001))])
.ret)
.skip))
(sq (kr [4] [oC 16 63 [],
oM 17 4,
oC 18 62 [16,17],
oM 15 18,
oX 19 15 0,
oX 20 15 1,
oM 6 19,
oM 7 20])
(sq (sq (kr [6,7] [oM 21 7,
oB 22 .neq 21 (cI 0),
oM 23 22,
oF 23 24 (.mov 6),
oF 23 25 (.len 24),
oF 23 26 (.bin .gtr 25 (cI 65528)),
oP 27 23 cT 26])
(.cond 27
(sq (kr [] [oD 2 (.mov (.c (.imm (.int .u8) []))),
oD 3 (.mov (cI 10001))])
.ret)
.skip))
(sq (kr [6] [oM 28 6,
oM 2 28,
oD 3 (.mov (cI 0))])
.ret))))))
def yr_:List RD:=[.tmp 2 true (some (.int .u8)),.tmp 3 true none]
theorem yA_:zl_ Tryz.prog Tryz.f23 yJ_ yr_=true:=by kernel_rfl
def qC_:List AV->List Obj->Option (Prop × AV)
 | [.imm ty0 l],[]=>Zs_ ty0 Y3 l fun l=>some ((okI l,.tup [.imm (.int .u8) (ieL l),.int .i64 (ieE l)]))
 | _,_=>none
theorem QU_:zf_ Tryz.prog 23 (RoF qC_).sum:=by
 refine zj_ Tryz.func23 yA_ (za_ (s:=RoF KG_) yj_ (za_ (s:=RoF q6_) kw_ (za_ (s:=RoF WO_) Ue_ (ze_ _)))) fun args objs p v e=>?_
 unfold qC_ at e
 split at e
 ·rename_i ty0 l
  obtain rfl:=zv_ e
  replace e:=zw_ e
  cases e
  refine ⟨rfl,fun hw ho hp=>?_⟩
  change List VIn at l
  clear hw ho
  have hok:=hp
  cases hg:gdL [] l with
  | false=>
    obtain ⟨e1,e2⟩:=zeD_ hg
    rw [e1,e2]
    repeat'(intro t ht;first|(cases t<;>first|(cases ht;done)|(try simp only[zh_]at ht;try(exfalso;first|contradiction|omega)))|((first|refine zb_ ht ?_|refine ht ?_ ?_|refine ht.1 ?_ ?_|refine ht ?_)<;>clear ht))
    all_goals first
     | exact True.intro
     | exact hok
     | exact ⟨rfl,rfl⟩
     | (exfalso;simp_all;done)
  | true=>
    have hj:=zdA_ hg hok.n
    have hL:itL l=l.map itI:=if_pos hg
    have hB:=zdO_ l
    repeat'(intro t ht;first|(cases t<;>first|(cases ht;done)|(try simp only[zh_]at ht;try(exfalso;first|contradiction|omega)))|((first|refine zb_ ht ?_|refine ht ?_ ?_|refine ht.1 ?_ ?_|refine ht ?_)<;>clear ht))
    all_goals (try simp only [hL,hB] at*)
    all_goals first
     | exact True.intro
     | exact hok
     | exact ⟨by decide,by decide,by decide,by decide,by decide,hj⟩
     | (exfalso;simp_all;done)
     | (obtain ⟨e1,e2⟩:=zeC_ hg (by omega)
        rw [e1,e2];exact ⟨rfl,True.intro⟩)
     | (obtain ⟨e1,e2⟩:=zcq_ (l:=l) (by omega)
        rw [e1,e2];exact ⟨rfl,True.intro⟩)
 ·cases e
theorem zcr_ (l:List VIn):decide (ieE l=0)=rgI l:=by
 unfold ieE;cases rgI l<;>rfl
def vk_:IR:=
(sq (kr [0] [oD 2 (.mov cF)])
(sq (kr [0] [oM 6 0,
oC 7 23 [6],
oM 5 7,
oX 8 5 0,
oX 9 5 1,
oM 3 8,
oM 4 9])
(sq (kr [4] [oM 10 4,
oB 11 .eql 10 (cI 0),
oM 2 11])
.ret)))
def YB_:List RD:=[.tmp 2 true none]
theorem YW_:zl_ Tryz.prog Tryz.f28 vk_ YB_=true:=by kernel_rfl
def KH_:List AV->List Obj->Option (Prop × AV)
 | [.imm ty0 l],[]=>Zs_ ty0 Y3 l fun l=>some ((okI l,.bool (rgI l)))
 | _,_=>none
theorem yk_:zf_ Tryz.prog 28 (RoF KH_).sum:=by
 refine zj_ Tryz.func28 YW_ (za_ (s:=RoF qC_) QU_ (ze_ _)) fun args objs p v e=>?_
 unfold KH_ at e
 split at e
 ·rename_i ty0 l
  obtain rfl:=zv_ e
  replace e:=zw_ e
  cases e
  refine ⟨rfl,fun hw ho hp=>?_⟩
  repeat'(intro t ht;first|(cases t<;>first|(cases ht;done)|(try simp only[zh_]at ht;try(exfalso;first|contradiction|omega)))|((first|refine zb_ ht ?_|refine ht ?_ ?_|refine ht.1 ?_ ?_|refine ht ?_)<;>clear ht))
  all_goals first
   | exact True.intro
   | exact hp
   | (rw [<- zcr_];exact ⟨rfl,rfl⟩)
 ·cases e
theorem zdC_ {t:Int} {x:List Int} (hk:¬ Zo_ (wI t) x=0):o5K t x=false/\o5A t x=0/\o5B t x=0:=by
 refine ⟨by unfold o5K;rw [decide_eq_false hk];rfl,?_,?_⟩
 ·unfold o5A o5N kU_;rw [if_pos rfl,show (0:Int).toNat=0 from rfl,List.drop_zero,vy_ hk];rfl
 ·unfold o5B o5N kU_;rw [if_pos rfl,show (0:Int).toNat=0 from rfl,List.drop_zero,vy_ hk];rfl
theorem zcC_ {t:Int} {x:List Int}:(Zo_ (wI t) x=0->wz_ (wI t) x 0 776 776 0=0/\K4_ (wI t) x 0 0=sI t)/\(¬ Zo_ (wI t) x=0->wz_ (wI t) x 0 776 776 0=776/\K4_ (wI t) x 0 0=0):=by
 have hK:=gu_ (wI t) x
 unfold wz_ K4_
 rw [if_pos rfl,if_pos rfl,show (0:Int).toNat=0 from rfl,List.drop_zero]
 constructor
 ·intro h
  rw [if_neg (by omega),if_neg (by omega),if_neg (by omega),if_neg (by omega)]
  exact ⟨rfl,by unfold sI;omega⟩
 ·intro h
  rcases hK with h1 | h1 | h1
  ·exact absurd h1 h
  ·rw [if_pos h1,if_pos h1];exact ⟨rfl,rfl⟩
  ·rw [if_neg (by omega),if_pos h1,if_neg (by omega),if_pos h1];exact ⟨rfl,rfl⟩
theorem zde_ (t:Int):(wI t).length<=3:=by
 unfold wI
 repeat' split
 all_goals decide
theorem B5_ {x:List Int} {p sh:Int} (h0:0<=p) (h1:p<=x.length) (e:Int):qb_ (x.length - p) x p sh e=e/\(e=0->qV_ (x.length - p) x p sh e=x.drop p.toNat):=by
 have hE:qb_ (x.length - p) x p sh e=e:=by unfold qb_;rw [if_neg (by omega),if_neg (by omega)]
 refine ⟨hE,fun h=>?_⟩
 unfold qV_;rw [hE,if_pos h,List.take_of_length_le (by omega)]
theorem zd6_ {x:List Int} {p sh:Int} (h0:0<=p) (h1:p<=x.length) (e:Int):atE (x.length - p) x p sh e=(if e=0 then adE (x.drop p.toNat) else e)/\atL (x.length - p) x p sh e=(if e=0 then adL (x.drop p.toNat) else []):=by
 obtain ⟨a,b⟩:=B5_ (sh:=sh) h0 h1 e
 unfold atE atL
 rw [a]
 by_cases h:e=0
 ·rw [if_pos h,if_pos h,if_pos h,if_pos h,b h];exact ⟨rfl,rfl⟩
 ·rw [if_neg h,if_neg h,if_neg h,if_neg h];exact ⟨rfl,rfl⟩
theorem zdz_ {s:Bool} {t:Int} {x:List Int} (h:kI t=false):o5E s t x=769/\o5V s t x=(t,0,0,[],[],()):=by
 unfold o5E o5V;rw [if_pos h,if_pos (.inl h)];exact ⟨rfl,rfl⟩
theorem zdy_ {s:Bool} {t:Int} {x:List Int} (h:kI t=true) (hs:s=true) (h6:¬ t=65535):o5E s t x=778/\o5V s t x=(t,0,0,[],[],()):=by
 unfold o5E o5V;rw [if_neg (by rw [h];decide),if_pos ⟨hs,h6⟩,if_pos (.inr ⟨hs,h6⟩)];exact ⟨rfl,rfl⟩
theorem Hh_ {s:Bool} {t:Int} {x:List Int} (h:kI t=true) (hs:¬ (s=true/\¬ t=65535)):o5E s t x=(if o5K t x=false then 776 else if t=65535 then 0 else if ¬ qI t (o5A t x) (o5B t x)=0 then qI t (o5A t x) (o5B t x) else adE (o5R t x))/\o5V s t x=(t,o5A t x,o5B t x,(if o5E s t x=0/\¬ t=65535 then adL (o5R t x) else []),(if o5K t x=true/\t=65535 then o5R t x else []),()):=by
 constructor
 ·unfold o5E;rw [if_neg (by rw [h];decide),if_neg hs]
 ·unfold o5V;rw [if_neg]
  rintro (c | c)
  ·rw [h] at c;cases c
  ·exact hs c
theorem bv_ {s:Bool} {t:Int} {x:List Int} (h:kI t=true) (hs:¬ (s=true/\¬ t=65535)) (ho:o5K t x=false):o5E s t x=776/\o5V s t x=(t,o5A t x,o5B t x,[],[],()):=by
 obtain ⟨a,b⟩:=Hh_ (x:=x) h hs
 rw [if_pos ho] at a
 rw [b,a,ho,if_neg (fun c=>by cases c.1),if_neg (fun c=>by cases c.1)];exact ⟨rfl,rfl⟩
theorem zes_ {s:Bool} {x:List Int} (ho:o5K 65535 x=true):o5E s 65535 x=0/\o5V s 65535 x=(65535,o5A 65535 x,o5B 65535 x,[],o5R 65535 x,()):=by
 obtain ⟨a,b⟩:=Hh_ (s:=s) (t:=65535) (x:=x) rfl (fun c=>c.2 rfl)
 rw [if_neg (by rw [ho];decide),if_pos rfl] at a
 rw [b,ho,if_neg (fun c=>c.2 rfl),if_pos ⟨rfl,rfl⟩];exact ⟨a,rfl⟩
theorem zer_ {s:Bool} {t:Int} {x:List Int} (h:kI t=true) (hs:¬ (s=true/\¬ t=65535)) (ho:o5K t x=true) (h6:¬ t=65535):o5E s t x=(if qI t (o5A t x) (o5B t x)=0 then adE (o5R t x) else qI t (o5A t x) (o5B t x))/\o5V s t x=(t,o5A t x,o5B t x,(if qI t (o5A t x) (o5B t x)=0 then adL (o5R t x) else []),[],()):=by
 obtain ⟨a,b⟩:=Hh_ (x:=x) h hs
 rw [if_neg (by rw [ho];decide),if_neg h6] at a
 rw [b,a,if_neg (fun c:o5K t x=true/\t=65535=>h6 c.2)]
 by_cases hq:qI t (o5A t x) (o5B t x)=0
 ·rw [if_neg (not_not_intro hq),if_pos hq,if_pos hq]
  refine ⟨rfl,?_⟩
  by_cases h0:adE (o5R t x)=0
  ·rw [if_pos ⟨h0,h6⟩]
  ·rw [if_neg (fun c=>h0 c.1)]
   have:adL (o5R t x)=[]:=by unfold adL;rw [if_neg h0]
   rw [this]
 ·rw [if_pos hq,if_neg hq,if_neg hq,if_neg (fun c:qI t (o5A t x) (o5B t x)=0/\¬ t=65535=>hq c.1)];exact ⟨rfl,rfl⟩
def gn_:IR:=
(sq (kr [0,1] [oD 2 (.boxv 0),
oD 4 (.box [.int .i64 0,.int .u64 0,.int .u64 0,.imm Y2 [],.imm (.int .u8) []]),
oD 5 (.mov (cI 0))])
(sq (.reg [oA 12 0 2,
oL 13 12,
oD 14 (.build [.int .i64 0,.int .u64 0,.int .u64 0,.imm Y2 [],.imm (.int .u8) []] [(0,1,13)]),
oD 6 (.box [.int .i64 0,.int .u64 0,.int .u64 0,.imm Y2 [],.imm (.int .u8) []]),
oS 5 6 14])
(sq (kr [1,2,4,6] [oA 16 0 2,
oL 17 16,
oC 18 123 [17],
oM 15 18,
oX 19 15 0,
oX 20 15 1,
oX 21 15 2,
oM 7 19,
oM 8 20,
oM 9 21])
(sq (.block 0
(sq (kr [1,2,4,6,7,8,9] [oM 23 9,
oD 24 (.un .not 23),
oM 22 24])
(.cond 22
(sq (.reg [oK 25 5 6,
oS 5 4 25,
oD 5 (.mov (cI 769))])
.ret)
(sq (kr [1,2,4,6,7,8] [oM 27 1,
oA 28 0 2,
oL 29 28,
oD 30 (.mget (.int .i64) (.int .i64) (0:Int) false 27 29),
oB 31 .gtr 30 (cI 0),
oM 32 31,
oT 32 33 (.fieldAddr 0 2),
oT 32 34 (.load none 33),
oT 32 35 (.bin .neq 34 (cI 65535)),
oP 36 32 35 cF,
oM 26 36])
(.cond 26
(sq (kr [4,6] [oK 37 5 6,
oS 5 4 37,
oD 5 (.mov (cI 778))])
.ret)
.skip)))))
(sq (kr [2,4,6,7,8] [oA 38 1 2,
oL 39 38,
oC 40 51 [39,(cI 776),(cI 776)],
oM 10 40])
(sq (kr [2,4,6,7,8,10] [oM 41 10,
oM 42 7,
oC 43 89 [41,42],
oD 44 (.sliceAll (.int .u64) 2 [(0,1,(.c (.int .u64 0))),(1,1,(.c (.int .u64 0)))]),
oD 45 (.append (.int .u64) 8 43 44),
oM 11 45])
(sq (kd [2,4,6,8,10,11] [(oM 46 11,[]),
(oD 47 (.indexSl 1 46 (cI 0)),[]),
(oL 48 47,[]),
(oM 49 11,[0,0,0]),
(oD 50 (.indexSl 1 49 (cI 1)),[1,0,0]),
(oL 51 50,[2,0,0]),
(oA 52 1 6,[0,0,0]),
(oS 1 52 48,[1,0,0]),
(oA 53 2 6,[]),
(oS 1 53 51,[])])
(sq (.block 1
(sq (kr [2,4,6,8,10] [oM 64 10,
oC 65 53 [64],
oB 66 .neq 65 (cI 0),
oM 63 66])
(.cond 63
.skip
(sq (kr [2,4,6,8,10] [oM 68 8,
oD 69 (.un .not 68),
oM 70 69,
oT 70 71 (.mov 10),
oT 70 72 (.call false (.f 108) [71]),
oT 70 73 (.bin .gtr 72 (cI 0)),
oP 74 70 73 cF,
oM 67 74])
(.cond 67
(kr [4,6,10] [oM 75 10,
oC 76 110 [75,(cI 776)]])
(sq (kr [2,4,6,10] [oA 78 0 2,
oL 79 78,
oB 80 .eql 79 (cI 65535),
oM 77 80])
(.cond 77
(.reg [oM 81 10,
oC 82 124 [81],
oA 83 4 6,
oS 1 83 82])
(sq (.reg [oM 54 10,
oK 55 5 6,
oC 56 125 [55],
oC 57 110 [54,56]])
(kr [4,6,10] [oM 58 10,
oM 59 10,
oC 60 108 [59],
oC 61 126 [58,60],
oA 62 3 6,
oS 1 62 61])))))))))
(sq (kd [4,6,10] [(oK 84 5 6,[]),
(oM 85 10,[0]),
(oC 86 53 [85],[1]),
(oS 5 4 84,[]),
(oM 5 86,[])])
.ret)))))))))
def UF_:List RD:=[.cell 4 (some 5) true [],.tmp 5 true none]
theorem UW_:zl_ Tryz.prog Tryz.f66 gn_ UF_=true:=by kernel_rfl
def Ky_:List AV->List Obj->Option (Prop × AV)
 | [.agg [.int .i64 tt,.imm (.int .u8) x],.mapv 0],[.map sq (.int .i64) (.int .i64) m]=>some ((x.length<=100000,.tup [.agg [.int .i64 ((o5V (decide (0 < (zt_ m tt).getD 0)) tt x)).1,.int .u64 ((o5V (decide (0 < (zt_ m tt).getD 0)) tt x)).2.1,.int .u64 ((o5V (decide (0 < (zt_ m tt).getD 0)) tt x)).2.2.1,.imm Y2 ((o5V (decide (0 < (zt_ m tt).getD 0)) tt x)).2.2.2.1,.imm (.int .u8) ((o5V (decide (0 < (zt_ m tt).getD 0)) tt x)).2.2.2.2.1],.int .i64 (o5E (decide (0 < (zt_ m tt).getD 0)) tt x)]))
 | _,_=>none
theorem Wk_:zf_ Tryz.prog 66 (RoF Ky_).sum:=by
 refine zj_ Tryz.func66 UW_ (za_ (s:=RoF kX_) JU_ (za_ (s:=RwF qN_) Qt_ (za_ (s:=RwF qk_) KT_ (za_ (s:=RoF zB_) zG_ (za_ (s:=RoF z7_) ZC_ (za_ (s:=RwF zE_) zJ_ (za_ (s:=RwF Z2_) Qu_ (za_ (s:=RoF kf_) j6_ (za_ (s:=RwF wO_) Vh_ (ze_ _)))))))))) fun args objs p v e=>?_
 unfold Ky_ at e
 split at e
 ·rename_i tt x sq m
  cases e
  refine ⟨rfl,fun hw ho hp=>?_⟩
  change List Int at x
  clear hw ho
  change List (Int × Int) at m
  obtain ⟨c1,c2⟩:=zcC_ (t:=tt) (x:=x)
  have hcl:=zcE_ (wI tt) x 0 0
  have hwl:=zde_ tt
  have hll:(kU_ (wI tt) x 0 0++[0,0]).length=(kU_ (wI tt) x 0 0).length+2:=by rw [List.length_append];rfl
  cases hk:kI tt with
  | false=>
    have hk':¬ kI tt=true:=fun z=>by rw [hk] at z;cases z
    obtain ⟨e1,e2⟩:=zdz_ (s:=decide (0 < (zt_ m tt).getD 0)) (x:=x) hk
    rw [e1,e2]
    repeat'(intro t ht;first|(cases t<;>first|(cases ht;done)|(try simp only[zh_]at ht;try(exfalso;first|contradiction|omega)))|((first|refine zb_ ht ?_|refine ht ?_ ?_|refine ht.1 ?_ ?_|refine ht ?_)<;>clear ht))
    all_goals first
     | exact True.intro
     | exact ⟨rfl,rfl⟩
  | true=>
    have hk':¬ kI tt=false:=fun z=>by rw [hk] at z;cases z
    obtain ⟨w1,w2⟩:=gW_ hk
    by_cases hs:(@LT.lt Int Int.instLTInt 0 (@Option.getD (Ty.den (.int .i64)) (@zt_ (Ty.den (.int .i64)) (Ty.den (.int .i64)) (Ty.deq (.int .i64)) m tt) (0:Int)))/\¬ tt=65535
    ·obtain ⟨e1,e2⟩:=zdy_ (s:=decide (0 < (zt_ m tt).getD 0)) (x:=x) hk (decide_eq_true hs.1) hs.2
     rw [e1,e2]
     repeat'(intro t ht;first|(cases t<;>first|(cases ht;done)|(try simp only[zh_]at ht;try(exfalso;first|contradiction|omega)))|((first|refine zb_ ht ?_|refine ht ?_ ?_|refine ht.1 ?_ ?_|refine ht ?_)<;>clear ht))
     all_goals first
      | exact True.intro
      | exact ⟨rfl,rfl⟩
      | (exfalso;omega)
    ·have hs':¬ (decide (0 < (zt_ m tt).getD 0)=true/\¬ tt=65535):=fun c=>hs ⟨of_decide_eq_true c.1,c.2⟩
     by_cases hg:Zo_ (wI tt) x=0
     ·obtain ⟨q1,q2⟩:=c1 hg
      have q3:=zcD_ (w:=wI tt) (b:=x) (p:=0) (e:=0) (by decide) (by omega)
      have q4:=q3
      rw [q2] at q3
      clear c1 c2
      by_cases hmo:mI tt=true\/(x.length:Int)<=sI tt
      ·have ho:o5K tt x=true:=by unfold o5K;rw [decide_eq_true hg,Bool.true_and,Bool.or_eq_true,decide_eq_true_eq];exact hmo
       by_cases h6:tt=65535
       ·subst h6
        obtain ⟨e1,e2⟩:=zes_ (s:=decide (0 < (zt_ m 65535).getD 0)) (x:=x) ho
        rw [e1,e2]
        repeat'(intro t ht;first|(cases t<;>first|(cases ht;done)|(try simp only[zh_]at ht;try(exfalso;first|contradiction|omega)))|((first|refine zb_ ht ?_|refine ht ?_ ?_|refine ht.1 ?_ ?_|refine ht ?_)<;>clear ht))
        all_goals first
         | exact True.intro
         | exact Nat.le_trans hp (by decide)
         | exact ⟨by decide,by omega,Nat.le_trans hp (by decide)⟩
         | exact ⟨q4.1,q4.2⟩
         | exact ⟨q4.1,q4.2,by omega,by decide⟩
         | (simp only [hll,List.length_cons,List.length_nil];first | omega | (constructor<;>omega))
         | (rw [q1,q2];exact ⟨rfl,rfl⟩)
         | (exfalso;omega)
       ·obtain ⟨e1,e2⟩:=zer_ (x:=x) hk hs' ho h6
        rw [e1,e2]
        obtain ⟨A,B⟩:=zd6_ (sh:=776) q3.1 q3.2 (qI tt (o5A tt x) (o5B tt x))
        unfold o5R
        rw [<- A,<- B]
        repeat'(intro t ht;first|(cases t<;>first|(cases ht;done)|(try simp only[zh_]at ht;try(exfalso;first|contradiction|omega)))|((first|refine zb_ ht ?_|refine ht ?_ ?_|refine ht.1 ?_ ?_|refine ht ?_)<;>clear ht))
        all_goals first
         | exact True.intro
         | exact Nat.le_trans hp (by decide)
         | exact ⟨by decide,by omega,Nat.le_trans hp (by decide)⟩
         | exact ⟨q4.1,q4.2⟩
         | exact ⟨q4.1,q4.2,by omega,by decide⟩
         | (simp only [hll,List.length_cons,List.length_nil];first | omega | (constructor<;>omega))
         | (rw [q1,q2];exact ⟨rfl,rfl⟩)
         | (exfalso;rcases hmo with z | z<;>first | omega | (simp_all;done))
      ·have hm1:¬ mI tt=true:=fun c=>hmo (.inl c)
       have hm2:¬ (x.length:Int)<=sI tt:=fun c=>hmo (.inr c)
       have ho:o5K tt x=false:=by
        unfold o5K
        cases hmi:mI tt with
        | true=>exact absurd (.inl hmi) hmo
        | false=>rw [decide_eq_false (fun c=>hmo (.inr c)),Bool.or_false,Bool.and_false]
       obtain ⟨e1,e2⟩:=bv_ (x:=x) hk hs' ho
       rw [e1,e2]
       repeat'(intro t ht;first|(cases t<;>first|(cases ht;done)|(try simp only[zh_]at ht;try(exfalso;first|contradiction|omega)))|((first|refine zb_ ht ?_|refine ht ?_ ?_|refine ht.1 ?_ ?_|refine ht ?_)<;>clear ht))
       all_goals first
        | exact True.intro
        | exact Nat.le_trans hp (by decide)
        | exact ⟨by decide,by omega,Nat.le_trans hp (by decide)⟩
        | exact ⟨q4.1,q4.2⟩
        | exact ⟨q4.1,q4.2,by omega,by decide⟩
        | (simp only [hll,List.length_cons,List.length_nil];first | omega | (constructor<;>omega))
        | (rw [q1];exact ⟨rfl,rfl⟩)
        | (exfalso;first | omega | (refine hmo ?_;first | (left;assumption) | (right;omega)))
     ·obtain ⟨q1,q2⟩:=c2 hg
      obtain ⟨e1,e2⟩:=bv_ (x:=x) hk hs' (zdC_ hg).1
      rw [e1,e2]
      repeat'(intro t ht;first|(cases t<;>first|(cases ht;done)|(try simp only[zh_]at ht;try(exfalso;first|contradiction|omega)))|((first|refine zb_ ht ?_|refine ht ?_ ?_|refine ht.1 ?_ ?_|refine ht ?_)<;>clear ht))
      all_goals first
       | exact True.intro
       | exact Nat.le_trans hp (by decide)
       | exact ⟨by decide,by omega,Nat.le_trans hp (by decide)⟩
       | (simp only [hll,List.length_cons,List.length_nil];first | omega | (constructor<;>omega))
       | (rw [q1];exact ⟨rfl,rfl⟩)
       | (exfalso;omega)
 ·cases e
theorem zdT_ {acc:List VIn} {y:List Int} (h:tlE y 8 8 776=0):inE acc y=o5E (snI acc (tT y)) (tT y) (bd y):=by unfold inE;rw [if_neg (not_not_intro h)]
theorem bK_ {acc:List VIn} {y:List Int} (h:¬ tlE y 8 8 776=0):inE acc y=tlE y 8 8 776:=by unfold inE;rw [if_pos h]
theorem Ud_ {y:List Int} (h:tlE y 8 8 776=0):tlI y 8 8 776 (tT y)=tT y/\tlI y 8 8 776 (tN y)=tN y/\tlR y 8 8 776=bd y:=by
 unfold tlI tlR bd;rw [if_pos h,if_pos h,if_pos h];exact ⟨rfl,rfl,rfl⟩
theorem bJ_ {m:List (Int × Int)} {acc:List VIn} {y:List Int} (jm:mOk m acc) (hT:tlE y 8 8 776=0):o5E (decide (0 < (zt_ m (tlI y 8 8 776 (tT y))).getD 0)) (tlI y 8 8 776 (tT y)) (tlR y 8 8 776)=inE acc y/\o5V (decide (0 < (zt_ m (tlI y 8 8 776 (tT y))).getD 0)) (tlI y 8 8 776 (tT y)) (tlR y 8 8 776)=vI acc y:=by
 obtain ⟨t1,t2,t3⟩:=Ud_ hT
 rw [t1,t3,bC_ jm,zdT_ hT];exact ⟨rfl,rfl⟩
theorem vI_t {acc:List VIn} {y:List Int}:(vI acc y).1=tT y:=by
 unfold vI o5V;split<;>rfl
def V5_:IR:=
(sq (kr [0] [oD 2 (.mov (.c (.imm Y3 []))),
oD 3 (.mov (cI 0))])
(sq (.reg [oD 8 (.mkmap (.int .i64) (.int .i64)),
oM 4 8])
(sq (.block 0
(.loop
(sq (sq (kr [0,4] [oM 9 0,
oE 10 9,
oB 11 .gtr 10 (cI 0)])
(.cond 11
.skip
(.exit 0)))
(.block 1
(sq (kr [0,4] [oC 13 63 [],
oM 14 0,
oC 15 65 [13,14],
oM 12 15,
oX 16 12 0,
oX 17 12 1,
oX 18 12 2,
oD 5 (.box [.int .i64 0,.imm (.int .u8) []]),
oS 2 5 16,
oM 6 17,
oM 7 18])
(sq (sq (kr [0,4,5,6,7] [oM 19 7,
oB 20 .eql 19 (cI 0)])
(.cond 20
(kr [0,4,5,6] [oK 22 2 5,
oM 23 4,
oC 24 66 [22,23],
oM 21 24,
oX 25 21 0,
oX 26 21 1,
oM 7 26])
.skip))
(sq (sq (kr [0,4,5,6,7] [oM 27 7,
oB 28 .neq 27 (cI 0)])
(.cond 28
(sq (.reg [oM 29 7,
oD 2 (.mov (.c (.imm Y3 []))),
oM 3 29])
.ret)
.skip))
(sq (kr [0,4,5,6] [oM 30 4,
oA 31 0 5,
oL 32 31,
oD 33 (.mget (.int .i64) (.int .i64) (0:Int) false 30 32),
oB 34 .add 33 (cI 1),
oN (.mput (.int .i64) (.int .i64) 30 32 34)])
(.reg [oM 35 0,
oM 36 6,
oD 37 (.slice 1 35 (some 36) none none),
oM 0 37])))))))))
(sq (kr [] [oD 2 (.mov (.c (.imm Y3 []))),
oD 3 (.mov (cI 776))])
.ret))))
def Vr_:List RD:=[.tmp 2 true (some Y3),.tmp 3 true none]
theorem VK_:zl_ Tryz.prog Tryz.f64 V5_ Vr_=true:=by kernel_rfl
def jW_:List AV->List Obj->Option (Prop × AV)
 | [.imm (.int .u8) b],[]=>some ((b.length<=100000000/\65528 < b.length,.tup [.imm Y3 (idL b),.int .i64 (idE b)]))
 | _,_=>none
theorem Yj_:zf_ Tryz.prog 64 (RoF jW_).sum:=by
 refine zj_ Tryz.func64 VK_ (za_ (s:=RoF q6_) kw_ (za_ (s:=RoF ja_) JS_ (za_ (s:=RoF Ky_) Wk_ (ze_ _)))) fun args objs p v e=>?_
 unfold jW_ at e
 split at e
 ·rename_i b
  cases e
  refine ⟨rfl,fun hw ho hp=>?_⟩
  change List Int at b
  have hb:∀ z ∈ (b:List Int),(0:Int)<=z/\z<=255:=fun z hz=>(hw (.imm (.int .u8) b) (by simp)).1 z hz
  clear hw ho
  obtain ⟨hp,hlong⟩:=hp
  repeat'(intro t ht;first|(cases t<;>first|(cases ht;done)|(try simp only[zh_]at ht;try(exfalso;first|contradiction|omega)))|((first|refine zb_ ht ?_|refine ht ?_ ?_|refine ht.1 ?_ ?_|refine ht ?_)<;>clear ht))
  all_goals first
   | exact True.intro
   | (intro r h1 h2;clear h1;refine h2 ⟨[],[0,4],List VIn × List Int × List (Int × Int),(fun a=>a.1.length<=b.length/\a.2.1.length<=b.length/\a.1.length+a.2.1.length<=b.length/\mOk a.2.2 a.1/\(∀ z ∈ a.2.1,(0:Int)<=z/\z<=255)/\inG [] b=inG a.1 a.2.1),fun a=>[.imm (.int .u8) a.2.1,.mapv 0],fun a=>[.map true (.int .i64) (.int .i64) a.2.2],fun a=>a.2.1.length,⟨([],b,[]),⟨by simp,Nat.le_refl _,by simp,U8_,hb,rfl⟩,rfl,rfl⟩,?_⟩;clear h2)
  rintro ⟨acc,y,m⟩ ⟨ja,jy,jl,jm,jb,je⟩
  dsimp only at ja jy jl jm jb je
  repeat'(intro t ht;first|(cases t<;>first|(cases ht;done)|(try simp only[zh_]at ht;try(exfalso;first|contradiction|omega)))|((first|refine zb_ ht ?_|refine ht ?_ ?_|refine ht.1 ?_ ?_|refine ht ?_)<;>clear ht))
  all_goals first
   | exact True.intro
   | ((try simp only [zn_,zo_,zm_] at*);omega)
   | exact ⟨rfl,by decide,by dsimp only;omega⟩
   | (have h0:y.length=0:=by omega
      rw [xw_ h0] at je
      obtain ⟨d1,d2⟩:=(HJ_ je).1 (by omega)
      rw [d1,d2];exact ⟨rfl,rfl⟩)
   | (have hT:¬ tlE y 8 8 776=0:=by assumption
      have hi:=bK_ (acc:=acc) hT
      have hg:=jI_ (acc:=acc) (y:=y) (by omega) (by rw [hi];exact hT)
      rw [hi,<- je] at hg
      obtain ⟨d1,d2⟩:=vx_ (b:=b) (e:=tlE y 8 8 776) (by rw [hg]) hT
      rw [d1,d2];exact ⟨rfl,rfl⟩)
   | (have hT:tlE y 8 8 776=0:=by assumption
      obtain ⟨t1,t2,t3⟩:=Ud_ hT
      obtain ⟨i1,i2⟩:=bJ_ jm hT
      first
       | (show (tlR y 8 8 776).length<=100000;rw [t3];have:=zbx_ jb;omega)
       | (have hr:=jm.r (tlI y 8 8 776 (tT y))
          exact (show IntKind.i64.min<=(zt_ m (tlI y 8 8 776 (tT y))).getD 0+1/\(zt_ m (tlI y 8 8 776 (tT y))).getD 0+1<=IntKind.i64.max from by simp only [zm_];omega))
       | (have h0:¬ o5E (decide (0 < (zt_ m (tlI y 8 8 776 (tT y))).getD 0)) (tlI y 8 8 776 (tT y)) (tlR y 8 8 776)=0:=ht
          have hg:=jI_ (acc:=acc) (y:=y) (by omega) (by rw [<- i1];exact h0)
          rw [<- i1,<- je] at hg
          obtain ⟨d1,d2⟩:=vx_ (b:=b) (e:=o5E (decide (0 < (zt_ m (tlI y 8 8 776 (tT y))).getD 0)) (tlI y 8 8 776 (tT y)) (tlR y 8 8 776)) (by rw [hg]) h0
          rw [d1,d2];exact ⟨rfl,rfl⟩)
       | (have h0:o5E (decide (0 < (zt_ m (tlI y 8 8 776 (tT y))).getD 0)) (tlI y 8 8 776 (tT y)) (tlR y 8 8 776)=0:=by assumption
          obtain ⟨n1,n2,n3⟩:=vt_ (i1.symm.trans h0)
          first
           | (show 0<=tlI y 8 8 776 (tN y)/\tlI y 8 8 776 (tN y)<=(y.length:Int);rw [t2];omega)
           | (have hg:=Xp_ (acc:=acc) (y:=y) (by omega) (i1.symm.trans h0) (by omega)
              have hma:=U9_ (i:=vI acc y) jm
              rw [vI_t] at hma
              refine ⟨(acc++[vI acc y],y.drop (tN y).toNat,QX_ m (tT y) ((zt_ m (tT y)).getD 0+1)),⟨?_,?_,?_,hma,fun z hz=>jb z (List.mem_of_mem_drop hz),je.trans hg⟩,?_,?_,?_⟩
              ·dsimp only;rw [List.length_append,List.length_singleton];omega
              ·dsimp only;rw [List.length_drop];omega
              ·dsimp only;rw [List.length_append,List.length_singleton,List.length_drop];omega
              ·dsimp only;rw [List.length_drop];omega
              ·dsimp only;rw [t2];try rfl
              ·dsimp only;rw [t1];try rfl)
           | fail)
       | fail)
 ·cases e
def yK_:IR:=
(sq (kr [0] [oD 2 (.nilrow Y3),
oD 3 (.mov (cI 0))])
(sq (sq (.reg [oM 10 0,
oE 11 10,
oB 12 .gtr 11 (cI 65528)])
(.cond 12
(sq (kr [0] [oM 13 0,
oC 14 64 [13],
oX 15 14 0,
oX 16 14 1,
oM 2 15,
oM 3 16])
.ret)
.skip))
(sq (.reg [oD 4 (.nilrow Y3)])
(sq (kr [0,4] [oD 17 (.mkmap (.int .i64) (.int .i64)),
oM 5 17])
(sq (.block 0
(.loop
(sq (sq (kr [0,4,5] [oM 18 0,
oE 19 18,
oB 20 .gtr 19 (cI 0)])
(.cond 20
.skip
(.exit 0)))
(.block 1
(sq (kr [0,4,5] [oC 22 63 [],
oM 23 0,
oC 24 65 [22,23],
oM 21 24,
oX 25 21 0,
oX 26 21 1,
oX 27 21 2,
oD 6 (.box [.int .i64 0,.imm (.int .u8) []]),
oS 2 6 25,
oM 7 26,
oM 8 27])
(sq (sq (kr [0,4,5,6,7,8] [oM 28 8,
oB 29 .neq 28 (cI 0)])
(.cond 29
(sq (.reg [oM 30 8,
oD 2 (.nilrow Y3),
oM 3 30])
.ret)
.skip))
(sq (kr [0,4,5,6,7] [oK 32 2 6,
oM 33 5,
oC 34 66 [32,33],
oM 31 34,
oX 35 31 0,
oX 36 31 1,
oD 9 (.box [.int .i64 0,.int .u64 0,.int .u64 0,.imm Y2 [],.imm (.int .u8) []]),
oS 5 9 35,
oM 8 36])
(sq (sq (kr [0,4,5,7,8,9] [oM 37 8,
oB 38 .neq 37 (cI 0)])
(.cond 38
(sq (.reg [oM 39 8,
oD 2 (.nilrow Y3),
oM 3 39])
.ret)
.skip))
(sq (kr [0,4,5,7,9] [oM 40 5,
oA 41 0 9,
oL 42 41,
oD 43 (.mget (.int .i64) (.int .i64) (0:Int) false 40 42),
oB 44 .add 43 (cI 1),
oN (.mput (.int .i64) (.int .i64) 40 42 44)])
(sq (kr [0,4,5,7,9] [oM 45 4,
oK 46 5 9,
oD 47 (.sliceAll Y3 1 [(0,5,46)]),
oD 48 (.append Y3 72 45 47),
oM 4 48])
(.reg [oM 49 0,
oM 50 7,
oD 51 (.slice 1 49 (some 50) none none),
oM 0 51])))))))))))
(sq (kr [4] [oM 52 4,
oM 2 52,
oD 3 (.mov (cI 0))])
.ret))))))
def ys_:List RD:=[.tmp 2 true (some Y3),.tmp 3 true none]
theorem yB_:zl_ Tryz.prog Tryz.f24 yK_ ys_=true:=by kernel_rfl
def QI_:List AV->List Obj->Option (Prop × AV)
 | [.imm (.int .u8) b],[]=>some ((b.length<=100000000,.tup [.imm Y3 (idL b),.int .i64 (idE b)]))
 | _,_=>none
theorem KS_:zf_ Tryz.prog 24 (RoF QI_).sum:=by
 refine zj_ Tryz.func24 yB_ (za_ (s:=RoF jW_) Yj_ (za_ (s:=RoF q6_) kw_ (za_ (s:=RoF ja_) JS_ (za_ (s:=RoF Ky_) Wk_ (ze_ _))))) fun args objs p v e=>?_
 unfold QI_ at e
 split at e
 ·rename_i b
  cases e
  refine ⟨rfl,fun hw ho hp=>?_⟩
  change List Int at b
  have hb:∀ z ∈ (b:List Int),(0:Int)<=z/\z<=255:=fun z hz=>(hw (.imm (.int .u8) b) (by simp)).1 z hz
  clear hw ho
  by_cases hlong:65528 < b.length
  ·repeat'(intro t ht;first|(cases t<;>first|(cases ht;done)|(try simp only[zh_]at ht;try(exfalso;first|contradiction|omega)))|((first|refine zb_ ht ?_|refine ht ?_ ?_|refine ht.1 ?_ ?_|refine ht ?_)<;>clear ht))
   all_goals first
    | exact True.intro
    | exact ⟨hp,hlong⟩
    | exact ⟨rfl,rfl⟩
    | (exfalso;omega)
  ·repeat'(intro t ht;first|(cases t<;>first|(cases ht;done)|(try simp only[zh_]at ht;try(exfalso;first|contradiction|omega)))|((first|refine zb_ ht ?_|refine ht ?_ ?_|refine ht.1 ?_ ?_|refine ht ?_)<;>clear ht))
   all_goals first
    | exact True.intro
    | (exfalso;omega)
    | (intro r h1 h2;clear h1;refine h2 ⟨[],[0,4,5],List VIn × List Int × List (Int × Int),(fun a=>a.1.length+a.2.1.length<=b.length/\mOk a.2.2 a.1/\(∀ z ∈ a.2.1,(0:Int)<=z/\z<=255)/\inG [] b=inG a.1 a.2.1),fun a=>[.imm (.int .u8) a.2.1,.own 0,.mapv 1],fun a=>[.row false Y3 a.1,.map true (.int .i64) (.int .i64) a.2.2],fun a=>a.2.1.length,⟨([],b,[]),⟨by simp,U8_,hb,rfl⟩,rfl,rfl⟩,?_⟩;clear h2)
   rintro ⟨acc,y,m⟩ ⟨jl,jm,jb,je⟩
   dsimp only at jl jm jb je
   repeat'(intro t ht;first|(cases t<;>first|(cases ht;done)|(try simp only[zh_]at ht;try(exfalso;first|contradiction|omega)))|((first|refine zb_ ht ?_|refine ht ?_ ?_|refine ht.1 ?_ ?_|refine ht ?_)<;>clear ht))
   all_goals first
    | exact True.intro
    | ((try simp only [zn_,zo_,zm_] at*);omega)
    | exact ⟨rfl,by decide,by dsimp only;omega⟩
    | (simp only [List.length_cons,List.length_nil];constructor<;>omega)
    | (have h0:y.length=0:=by omega
       rw [xw_ h0] at je
       obtain ⟨d1,d2⟩:=(HJ_ je).2 (by omega)
       rw [d1,d2];exact ⟨rfl,rfl⟩)
    | (have hT:¬ tlE y 8 8 776=0:=by assumption
       have hi:=bK_ (acc:=acc) hT
       have hg:=jI_ (acc:=acc) (y:=y) (by omega) (by rw [hi];exact hT)
       rw [hi,<- je] at hg
       obtain ⟨d1,d2⟩:=vx_ (b:=b) (e:=tlE y 8 8 776) (by rw [hg]) hT
       rw [d1,d2];exact ⟨rfl,rfl⟩)
    | (have hT:tlE y 8 8 776=0:=by assumption
       obtain ⟨t1,t2,t3⟩:=Ud_ hT
       obtain ⟨i1,i2⟩:=bJ_ jm hT
       have i3:(o5V (decide (0 < (zt_ m (tlI y 8 8 776 (tT y))).getD 0)) (tlI y 8 8 776 (tT y)) (tlR y 8 8 776)).1=tT y:=by rw [i2];exact vI_t
       first
        | (show (tlR y 8 8 776).length<=100000;rw [t3];have:=zbx_ jb;omega)
        | (have hr:=jm.r (o5V (decide (0 < (zt_ m (tlI y 8 8 776 (tT y))).getD 0)) (tlI y 8 8 776 (tT y)) (tlR y 8 8 776)).1
           exact (show IntKind.i64.min<=(zt_ m (o5V (decide (0 < (zt_ m (tlI y 8 8 776 (tT y))).getD 0)) (tlI y 8 8 776 (tT y)) (tlR y 8 8 776)).1).getD 0+1/\(zt_ m (o5V (decide (0 < (zt_ m (tlI y 8 8 776 (tT y))).getD 0)) (tlI y 8 8 776 (tT y)) (tlR y 8 8 776)).1).getD 0+1<=IntKind.i64.max from by simp only [zm_];omega))
        | (have h0:¬ o5E (decide (0 < (zt_ m (tlI y 8 8 776 (tT y))).getD 0)) (tlI y 8 8 776 (tT y)) (tlR y 8 8 776)=0:=ht
           have hg:=jI_ (acc:=acc) (y:=y) (by omega) (by rw [<- i1];exact h0)
           rw [<- i1,<- je] at hg
           obtain ⟨d1,d2⟩:=vx_ (b:=b) (e:=o5E (decide (0 < (zt_ m (tlI y 8 8 776 (tT y))).getD 0)) (tlI y 8 8 776 (tT y)) (tlR y 8 8 776)) (by rw [hg]) h0
           rw [d1,d2];exact ⟨rfl,rfl⟩)
        | (have h0:o5E (decide (0 < (zt_ m (tlI y 8 8 776 (tT y))).getD 0)) (tlI y 8 8 776 (tT y)) (tlR y 8 8 776)=0:=by assumption
           obtain ⟨n1,n2,n3⟩:=vt_ (i1.symm.trans h0)
           first
            | (show 0<=tlI y 8 8 776 (tN y)/\tlI y 8 8 776 (tN y)<=(y.length:Int);rw [t2];omega)
            | (have hg:=Xp_ (acc:=acc) (y:=y) (by omega) (i1.symm.trans h0) (by omega)
               have hma:=U9_ (i:=vI acc y) jm
               refine ⟨(acc++[vI acc y],y.drop (tN y).toNat,QX_ m (vI acc y).1 ((zt_ m (vI acc y).1).getD 0+1)),⟨?_,hma,fun z hz=>jb z (List.mem_of_mem_drop hz),je.trans hg⟩,?_,?_,?_⟩
               ·dsimp only;rw [List.length_append,List.length_singleton,List.length_drop];omega
               ·dsimp only;rw [List.length_drop];omega
               ·dsimp only;rw [t2];try rfl
               ·dsimp only;rw [<- i2];try rfl)
            | fail)
        | fail)
 ·cases e
def Xl_:IR:=
(sq (kr [0] [oD 2 (.mov (.c (.imm (.int .u8) [])))])
(sq (sq (.reg [oM 3 0,
oD 4 (.isnil false 3)])
(.cond 4
(sq (.reg [oD 2 (.mov (.c (.imm (.int .u8) [])))])
.ret)
.skip))
(sq (.reg [oD 5 (.slice0 (.int .u8)),
oM 6 0,
oD 7 (.append (.int .u8) 1 5 6),
oM 2 7])
.ret)))
def x3_:List RD:=[.tmp 2 true (some (.int .u8))]
theorem Xb_:zl_ Tryz.prog Tryz.f68 Xl_ x3_=true:=by kernel_rfl
def kF_:List AV->List Obj->Option (Prop × AV)
 | [.jsl 0 (.int .u8) b],[.reg false true]=>some ((b.length<=140737488355328,.imm (.int .u8) b))
 | _,_=>none
theorem W8_:zf_ Tryz.prog 68 (RoF kF_).sum:=by
 refine zj_ Tryz.func68 Xb_ (ze_ _) fun args objs p v e=>?_
 unfold kF_ at e
 split at e
 ·rename_i b
  cases e
  refine ⟨rfl,fun hw ho hp=>?_⟩
  change List Int at b
  clear hw ho
  repeat'(intro t ht;first|(cases t<;>first|(cases ht;done)|(try simp only[zh_]at ht))|((first|refine zb_ ht ?_|refine ht ?_ ?_|refine ht.1 ?_ ?_|refine ht ?_)<;>clear ht))
  all_goals first
   | exact True.intro
   | (simp only [Z8_,List.length_nil,Nat.zero_add,Nat.mul_one];omega)
   | exact ⟨rfl,rfl⟩
   | (have e:b=[]:=by simp_all
      refine ⟨?_,rfl⟩;rw [e])
 ·cases e
def Qr_:IR:=
(sq (kr [0] [oD 2 (.nilrow Y3)])
(sq (sq (.reg [oM 3 0,
oD 4 (.isnil false 3)])
(.cond 4
(sq (.reg [oD 2 (.nilrow Y3)])
.ret)
.skip))
(sq (.reg [oD 5 (.slice0 Y3),
oM 6 0,
oD 7 (.appendJ Y3 72 5 6),
oM 2 7])
.ret)))
def Qp_:List RD:=[.tmp 2 false none]
theorem Qq_:zl_ Tryz.prog Tryz.f67 Qr_ Qp_=true:=by kernel_rfl
def Zg_:List AV->List Obj->Option (Prop × AV × List Obj)
 | [.jsl 0 ty0 l],[.reg false true]=>Zs_ ty0 Y3 l fun l=>match l with
   | []=>some (True,.own 1,[.reg false true,.row false Y3 []])
   | x :: q=>some ((x :: q).length<=1000000,.own 1,[.reg false true,.rowm Y3 (x :: q) 0 [.jsl 0 Y3 [],.int .i64 (x).1,.int .u64 (x).2.1,.int .u64 (x).2.2.1,.jsl 0 Y2 (x).2.2.2.1,.jsl 0 (.int .u8) (x).2.2.2.2.1]])
 | _,_=>none
theorem Qb_:zf_ Tryz.prog 67 (RwF Zg_).sum:=by
 refine Qi_ Tryz.func67 Qq_ (ze_ _) fun args objs p v o e=>?_
 unfold Zg_ at e
 split at e
 ·rename_i ty0 l
  obtain rfl:=zv_ e
  replace e:=zw_ e
  cases l with
  | nil=>
    cases e
    refine ⟨rfl,fun hw ho hp=>?_⟩
    clear hw ho
    repeat'(intro t ht;first|(cases t<;>first|(cases ht;done)|(try simp only[zh_]at ht;try(exfalso;first|contradiction|omega)))|((first|refine zb_ ht ?_|refine ht ?_ ?_|refine ht.1 ?_ ?_|refine ht ?_)<;>clear ht))
    all_goals first
     | exact True.intro
     | exact ⟨rfl,rfl⟩
     | exact ⟨rfl,by decide,by decide⟩
  | cons x q=>
    cases e
    refine ⟨rfl,fun hw ho hp=>?_⟩
    clear hw ho
    repeat'(intro t ht;first|(cases t<;>first|(cases ht;done)|(try simp only[zh_]at ht;try(exfalso;first|contradiction|omega)))|((first|refine zb_ ht ?_|refine ht ?_ ?_|refine ht.1 ?_ ?_|refine ht ?_)<;>clear ht))
    all_goals first
     | exact True.intro
     | exact ⟨rfl,rfl⟩
     | (refine ⟨rfl,?_,?_⟩<;>first | omega | (simp only [Z8_] at*;omega))
     | (exfalso;have h1:True->x :: q=[]:=by assumption
        cases h1 True.intro;done)
     | (exfalso;simp_all;done)
     | (exfalso;simp at*;done)
 ·cases e
def yL_:IR:=
(sq (kr [0] [oD 2 (.mov (.c (.imm Y3 [])))])
(sq (.reg [oM 5 0,
oC 6 67 [5],
oM 3 6])
(sq (sq (.reg [oM 7 3,
oE 8 7,
oD 9 (.mov (cI 0))])
(.block 0
(.loop
(sq (kr [3,8,9] [oB 10 .lss 9 8])
(sq (.cond 10
.skip
(.exit 0))
(sq (.block 1
(sq (.reg [oM 11 9,
oM 4 11])
(kd [3,4,8,9] [(oM 12 3,[]),
(oM 13 4,[0]),
(oM 14 3,[0,0]),
(oM 15 4,[0,0,0]),
(oM 16 3,[0,0,0,0]),
(oM 17 4,[0,0,0,0,0]),
(oI 18 5 16 17,[2,0,0,0]),
(oA 19 3 18,[3,0,0,0]),
(oL 20 19,[4,0,0,0]),
(oC 21 56 [20],[5,0,0,0]),
(oM 22 3,[0,0,0,0,0,0,0,0,0,0]),
(oM 23 4,[0,0,0,0,0,0,0,0,0,0,0]),
(oI 24 5 22 23,[2,0,0,0,0,0,0,0,0,0]),
(oA 25 4 24,[3,0,0,0,0,0,0,0,0,0]),
(oL 26 25,[4,0,0,0,0,0,0,0,0,0]),
(oC 27 68 [26],[11,0,0,0]),
(oI 28 5 12 13,[12,0]),
(oA 29 3 28,[13,0]),
(oS 1 29 21,[14,0]),
(oI 30 5 14 15,[]),
(oA 31 4 30,[]),
(oS 1 31 27,[])])))
(kr [3,8,9] [oB 32 .add 9 (cI 1),
oM 9 32])))))))
(sq (kr [3] [oM 33 3,
oM 2 33])
.ret))))
def yt_:List RD:=[.tmp 2 true (some Y3)]
theorem yC_:zl_ Tryz.prog Tryz.f26 yL_ yt_=true:=by kernel_rfl
def Ki_:List AV->List Obj->Option (Prop × AV)
 | [.jsl 0 ty0 l],[.reg false true]=>Zs_ ty0 Y3 l fun l=>some ((okI l,.imm Y3 l))
 | _,_=>none
theorem xX_:zf_ Tryz.prog 26 (RoF Ki_).sum:=by
 refine zj_ Tryz.func26 yC_ (za_ (s:=RwF Zg_) Qb_ (za_ (s:=RoF KJ_) ym_ (za_ (s:=RoF kF_) W8_ (ze_ _)))) fun args objs p v e=>?_
 unfold Ki_ at e
 split at e
 ·rename_i ty0 l
  obtain rfl:=zv_ e
  replace e:=zw_ e
  cases e
  refine ⟨rfl,fun hw ho hp=>?_⟩
  change List VIn at l
  clear hw ho
  have hn:=hp.n
  have ha:=hp.a
  clear hp
  cases l with
  | nil=>
    clear ha hn
    repeat'(intro t ht;first|(cases t<;>first|(cases ht;done)|(try simp only[zh_]at ht;try(exfalso;first|contradiction|omega)))|((first|refine zb_ ht ?_|refine ht ?_ ?_|refine ht.1 ?_ ?_|refine ht ?_)<;>clear ht))
    all_goals first
     | exact True.intro
     | (intro r h1 h2;clear h1;refine h2 ⟨[],[3,8,9],Nat,(fun i=>i=0),fun i=>[.own 1,.int .i64 ([]:List VIn).length,.int .i64 0],fun i=>[.reg false true,.row false Y3 []],fun i=>0,⟨0,rfl,rfl,rfl⟩,?_⟩;clear h2)
    all_goals
     intro i hi
     repeat'(intro t ht;first|(cases t<;>first|(cases ht;done)|(try simp only[zh_]at ht;try(exfalso;first|contradiction|omega)))|((first|refine zb_ ht ?_|refine ht ?_ ?_|refine ht.1 ?_ ?_|refine ht ?_)<;>clear ht))
    all_goals first
     | exact True.intro
     | exact ⟨rfl,rfl⟩
  | cons x q=>
    repeat'(intro t ht;first|(cases t<;>first|(cases ht;done)|(try simp only[zh_]at ht;try(exfalso;first|contradiction|omega)))|((first|refine zb_ ht ?_|refine ht ?_ ?_|refine ht.1 ?_ ?_|refine ht ?_)<;>clear ht))
    all_goals first
     | exact True.intro
     | exact Nat.le_trans hn (by decide)
     | (intro r h1 h2;clear h1;refine h2 ⟨[],[3,8,9],Bool × Nat,(fun a=>a.2<=(x :: q).length/\(a.1=true ↔ a.2 < (x :: q).length)),fun a=>[.own 1,.int .i64 (x :: q).length,.int .i64 a.2],fun a=>match a.1 with | true=>[.reg false true,.rowm Y3 (x :: q) a.2 [.jsl 0 Y3 [],.int .i64 (((x :: q).getD a.2 (Ty.dflt Y3))).1,.int .u64 (((x :: q).getD a.2 (Ty.dflt Y3))).2.1,.int .u64 (((x :: q).getD a.2 (Ty.dflt Y3))).2.2.1,.jsl 0 Y2 (((x :: q).getD a.2 (Ty.dflt Y3))).2.2.2.1,.jsl 0 (.int .u8) (((x :: q).getD a.2 (Ty.dflt Y3))).2.2.2.2.1]] | false=>[.reg false true,.row false Y3 (x :: q)],fun a=>(x :: q).length - a.2,⟨(true,0),⟨Nat.zero_le _,⟨fun _=>Nat.succ_pos _,fun _=>rfl⟩⟩,rfl,rfl⟩,?_⟩;clear h2)
    all_goals
     rintro ⟨b,i⟩ ⟨hi,hb⟩
     replace hi:i<=(x :: q).length:=hi
     generalize hll:x :: q=l at*
     cases b
    ·have hlt:¬ i < l.length:=fun h=>by have:=hb.2 h;cases this
     repeat'(intro t ht;first|(cases t<;>first|(cases ht;done)|(try simp only[zh_]at ht;try(exfalso;first|contradiction|omega)))|((first|refine zb_ ht ?_|refine ht ?_ ?_|refine ht.1 ?_ ?_|refine ht ?_)<;>clear ht))
     all_goals first
      | exact True.intro
      | exact ⟨rfl,rfl⟩
      | ((try simp only [zn_,zo_,zm_] at*);omega)
    ·have hlt:i < l.length:=hb.1 rfl
     repeat'(intro t ht;first|(cases t<;>first|(cases ht;done)|(try simp only[zh_]at ht;try(exfalso;first|contradiction|omega)))|((first|refine zb_ ht ?_|refine ht ?_ ?_|refine ht.1 ?_ ?_|refine ht ?_)<;>clear ht))
     all_goals (try generalize (Ty.dflt Y3)=od at*)
     all_goals first
      | exact True.intro
      | exact (ha _ (zW_ hlt od)).1
      | exact Nat.le_trans (ha _ (zW_ hlt od)).2 (by decide)
      | (simp only [Int.toNat_natCast];omega)
      | omega
      | ((try simp only [zn_,zo_,zm_] at*);omega)
      | (refine ⟨(true,i+1),⟨by dsimp only;omega,⟨fun _=>by dsimp only;omega,fun _=>rfl⟩⟩,by dsimp only;omega,rfl,?_⟩
         have hs:=g8_ (d:=od) hlt
         dsimp only
         rw [show l.set i ((l.getD i od).1,(l.getD i od).2.1,(l.getD i od).2.2.1,(l.getD i od).2.2.2.1,(l.getD i od).2.2.2.2.1,())=l from hs]
         done)
      | (refine ⟨(false,i+1),⟨by dsimp only;omega,⟨fun h=>(by cases h),fun h=>by exfalso;dsimp only at h;omega⟩⟩,by dsimp only;omega,rfl,?_⟩
         have hs:=g8_ (d:=od) hlt
         dsimp only
         rw [show l.set i ((l.getD i od).1,(l.getD i od).2.1,(l.getD i od).2.2.1,(l.getD i od).2.2.2.1,(l.getD i od).2.2.2.2.1,())=l from hs]
         done)
 ·cases e
def nxI:List VIn->Int->Int
 | [],_=>-1
 | i :: r,k=>if i.1=1 then k else nxI r (k+1)
theorem zat_ {l:List VIn} {i:Nat} {d:VIn} (h:i < l.length):nxI (l.drop i) i=if (l.getD i d).1=1 then (i:Int) else nxI (l.drop (i+1)) ((i+1:Nat):Int):=by
 rw [zX_ h d];rfl
theorem bx_:∀ (l:List VIn) (k:Int),0<=k->(nxI l k=-1\/(k<=nxI l k/\nxI l k < k+l.length))
 | [],k,_=>.inl rfl
 | i :: r,k,h=>by
   unfold nxI
   split
   ·right;rw [List.length_cons];omega
   ·have:=bx_ r (k+1) (by omega)
    rw [List.length_cons];omega
def yI_:IR:=
(sq (kr [0] [oD 1 (.boxv 0),
oD 2 (.mov cF)])
(sq (.reg [oA 3 0 1,
oL 4 3,
oB 5 .eql 4 (cI 1),
oM 2 5])
.ret))
def yq_:List RD:=[.tmp 2 true none]
theorem yz_:zl_ Tryz.prog Tryz.f117 yI_ yq_=true:=by kernel_rfl
def QH_:List AV->List Obj->Option (Prop × AV)
 | [.agg [.int .i64 tt,.int .u64 a,.int .u64 b,.imm ty0 c,.imm (.int .u8) d]],[]=>Zs_ ty0 Y2 c fun c=>some ((True,.bool (decide (tt=1))))
 | _,_=>none
theorem KR_:zf_ Tryz.prog 117 (RoF QH_).sum:=by
 refine zj_ Tryz.func117 yz_ (ze_ _) fun args objs p v e=>?_
 unfold QH_ at e
 split at e
 ·rename_i tt a b ty0 c d
  obtain rfl:=zv_ e
  replace e:=zw_ e
  cases e
  refine ⟨rfl,fun hw ho hp=>?_⟩
  change List Int at d
  clear hw ho
  repeat'(intro t ht;first|(cases t<;>first|(cases ht;done)|(try simp only[zh_]at ht;try(exfalso;first|contradiction|omega)))|((first|refine zb_ ht ?_|refine ht ?_ ?_|refine ht.1 ?_ ?_|refine ht ?_)<;>clear ht))
  all_goals first
   | exact True.intro
   | exact ⟨rfl,rfl⟩
 ·cases e
def q4_:IR:=
(sq (kr [0,1] [oD 4 (.mov (cI 0))])
(sq (sq (.reg [oM 6 0,
oE 7 6,
oD 8 (.mov (cI 0))])
(.block 0
(.loop
(sq (kr [0,1,7,8] [oB 9 .lss 8 7])
(sq (.cond 9
.skip
(.exit 0))
(sq (.block 1
(sq (.reg [oM 10 8,
oM 5 10])
(sq (kr [0,1,5,7,8] [oM 11 1,
oM 12 0,
oM 13 5,
oI 14 5 12 13,
oK 15 5 14,
oD 16 (.call false 11 [15])])
(.cond 16
(sq (kr [5] [oM 17 5,
oM 4 17])
.ret)
.skip))))
(kr [0,1,7,8] [oB 18 .add 8 (cI 1),
oM 8 18])))))))
(sq (kr [] [oD 4 (.mov (cI (-1)))])
.ret)))
def q0_:List RD:=[.tmp 4 true none]
theorem q2_:zl_ Tryz.prog Tryz.f116 q4_ q0_=true:=by kernel_rfl
def z3_:List AV->List Obj->Option (Prop × AV)
 | [.imm ty0 l,.fn 117 [] []],[]=>Zs_ ty0 Y3 l fun l=>some ((True,.int .i64 (nxI l 0)))
 | _,_=>none
theorem qQ_:zf_ Tryz.prog 116 (RoF z3_).sum:=by
 refine zj_ Tryz.func116 q2_ (za_ (s:=RoF QH_) KR_ (ze_ _)) fun args objs p v e=>?_
 unfold z3_ at e
 split at e
 ·rename_i ty0 l
  obtain rfl:=zv_ e
  replace e:=zw_ e
  cases e
  refine ⟨rfl,fun hw ho hp=>?_⟩
  change List VIn at l
  have hl:l.length<=maxLen:=(hw (.imm Y3 l) (by simp)).2
  unfold maxLen at hl
  clear hw ho
  repeat'(intro t ht;first|(cases t<;>first|(cases ht;done)|(try simp only[zh_]at ht))|((first|refine zb_ ht ?_|refine ht ?_ ?_|refine ht.1 ?_ ?_|refine ht ?_)<;>clear ht))
  all_goals first
   | (intro r h1 h2;clear h1;refine h2 ⟨[],[0,1,7,8],Nat,(fun i=>i<=l.length/\nxI l 0=nxI (l.drop i) i),fun i=>[.imm Y3 l,.fn 117 [] [],.int .i64 l.length,.int .i64 i],fun _=>[],fun i=>l.length - i,⟨0,⟨Nat.zero_le _,rfl⟩,rfl,rfl⟩,?_⟩;clear h2)
  rintro i ⟨hi,he⟩
  repeat'(intro t ht;first|(cases t<;>first|(cases ht;done)|(try simp only[zh_]at ht;try(exfalso;first|contradiction|omega)))|((first|refine zb_ ht ?_|refine ht ?_ ?_|refine ht.1 ?_ ?_|refine ht ?_)<;>clear ht))
  all_goals (try generalize (Ty.dflt Y3)=od at*)
  all_goals first
   | exact True.intro
   | ((try simp only [zn_,zo_,zm_] at*);omega)
   | (refine ⟨?_,rfl⟩;rw [he,List.drop_of_length_le (by omega)];rfl)
   | (have hs:=he.trans (zat_ (d:=od) (by omega))
      first
       | (rw [if_pos (show (l.getD i od).1=1 from ht)] at hs
          refine ⟨?_,rfl⟩;rw [hs])
       | (rw [if_neg (show ¬ (l.getD i od).1=1 from ht)] at hs
          exact ⟨i+1,⟨by omega,hs⟩,by (try dsimp only);omega,rfl,rfl⟩)
       | fail)
 ·cases e
structure nxOk (l:List VIn):Prop where
 a:∀ i ∈ l,0<=i.2.1/\i.2.1<=255
def V8_:IR:=
(sq (kr [0] [oD 2 (.mov (cI 0)),
oD 3 (.mov cF)])
(sq (.reg [oM 5 0,
oC 6 116 [5,.f 117],
oM 4 6])
(sq (sq (.reg [oM 7 4,
oB 8 .lss 7 (cI 0)])
(.cond 8
(sq (kr [] [oD 2 (.mov (cI 0)),
oD 3 (.mov cF)])
.ret)
.skip))
(sq (kr [0,4] [oM 9 0,
oM 10 4,
oI 11 5 9 10,
oA 12 1 11,
oL 13 12,
oD 14 (.conv .i64 13),
oM 2 14,
oD 3 (.mov cT)])
.ret))))
def Vu_:List RD:=[.tmp 2 true none,.tmp 3 true none]
theorem VN_:zl_ Tryz.prog Tryz.f60 V8_ Vu_=true:=by kernel_rfl
def jZ_:List AV->List Obj->Option (Prop × AV)
 | [.imm ty0 l],[]=>Zs_ ty0 Y3 l fun l=>some ((nxOk l,.tup [.int .i64 (if nxI l 0 < 0 then 0 else (l.getD (nxI l 0).toNat (Ty.dflt Y3)).2.1),.bool (decide (¬ nxI l 0 < 0))]))
 | _,_=>none
theorem Ym_:zf_ Tryz.prog 60 (RoF jZ_).sum:=by
 refine zj_ Tryz.func60 VN_ (za_ (s:=RoF z3_) qQ_ (za_ (s:=RoF QH_) KR_ (ze_ _))) fun args objs p v e=>?_
 unfold jZ_ at e
 split at e
 ·rename_i ty0 l
  obtain rfl:=zv_ e
  replace e:=zw_ e
  cases e
  refine ⟨rfl,fun hw ho hp=>?_⟩
  change List VIn at l
  have hl:l.length<=maxLen:=(hw (.imm Y3 l) (by simp)).2
  unfold maxLen at hl
  clear hw ho
  have hr:=bx_ l 0 (by decide)
  repeat'(intro t ht;first|(cases t<;>first|(cases ht;done)|(try simp only[zh_]at ht;try(exfalso;first|contradiction|omega)))|((first|refine zb_ ht ?_|refine ht ?_ ?_|refine ht.1 ?_ ?_|refine ht ?_)<;>clear ht))
  all_goals first
   | exact True.intro
   | ((try simp only [zn_,zo_,zm_] at*);omega)
   | (have hm:=hp.a _ (zW_ (show (nxI l 0).toNat < l.length by omega) (Ty.dflt Y3))
      exact (show IntKind.i64.min<=(l.getD (nxI l 0).toNat (Ty.dflt Y3)).2.1/\(l.getD (nxI l 0).toNat (Ty.dflt Y3)).2.1<=IntKind.i64.max by simp only [zm_];omega))
   | (rw [if_neg ht,decide_eq_true ht];exact ⟨rfl,rfl⟩)
   | (rw [if_pos ht,decide_eq_false (not_not_intro ht)];exact ⟨rfl,rfl⟩)
 ·cases e
theorem uM_ {l:List VIn} (h:KE_ l=true):okI l/\l.length<=20:=by
 unfold KE_ at h
 simp only [Bool.and_eq_true,decide_eq_true_eq] at h
 refine ⟨⟨fun i hi=>?_,by omega⟩,h.2⟩
 have:=List.all_eq_true.1 h.1 i hi
 unfold HL_ at this
 simp only [Bool.and_eq_true,decide_eq_true_eq] at this
 exact ⟨(zcv_ this.1).1,by omega⟩
theorem s15r:rgI [((1:Int),(7:Int),(0:Int),([]:List AC),([]:List Int),())]=true/\boI [((1:Int),(7:Int),(0:Int),([]:List AC),([]:List Int),())]=[0,1,0,8,7,0,0,0]:=by decide+kernel
theorem s15w:∀ i ∈ [((1:Int),(7:Int),(0:Int),([]:List AC),([]:List Int),())],wfI i:=fun i hi=>by
 rcases List.mem_singleton.1 hi with rfl
 exact ⟨by decide,by decide,fun a ha=>by cases ha⟩
theorem s15a:idL [0,1,0,8,7,0,0,0]=[(1,7,0,[],[],())]/\idE [0,1,0,8,7,0,0,0]=0:=by
 have h:=za7_ s15r.1 s15w
 rw [s15r.2] at h;exact h
theorem s15b:idE [0,1,0,8,7,0,0,0,0,1,0,8,7,0,0,0]=778:=by
 have hb:(bdO ((1:Int),(7:Int),(0:Int),([]:List AC),([]:List Int),()))=some [7,0,0,0]:=by decide+kernel
 have hE:enI ((1:Int),(7:Int),(0:Int),([]:List AC),([]:List Int),())=[0,1,0,8,7,0,0,0]:=by decide+kernel
 obtain ⟨e1,e2,e3⟩:=zaZ_ (acc:=[]) (rest:=[0,1,0,8,7,0,0,0]) hb (s15w _ (List.mem_singleton.2 rfl)) (by decide)
 rw [hE] at e1 e2 e3
 have g:=Xp_ (acc:=[]) (y:=[0,1,0,8,7,0,0,0]++[0,1,0,8,7,0,0,0]) (by decide) e1 (by rw [e3];decide)
 rw [e2,e3] at g
 have h2:inE [((1:Int),(7:Int),(0:Int),([]:List AC),([]:List Int),())] [0,1,0,8,7,0,0,0]=778:=by decide+kernel
 have g2:=jI_ (acc:=[((1:Int),(7:Int),(0:Int),([]:List AC),([]:List Int),())]) (y:=[0,1,0,8,7,0,0,0]) (by decide) (by rw [h2];decide)
 rw [h2] at g2
 refine (vx_ (b:=[0,1,0,8,7,0,0,0,0,1,0,8,7,0,0,0]) (e:=778) ?_ (by decide)).2
 have g3:inG [] [0,1,0,8,7,0,0,0,0,1,0,8,7,0,0,0]=inG [((1:Int),(7:Int),(0:Int),([]:List AC),([]:List Int),())] [0,1,0,8,7,0,0,0]:=g
 rw [g3,g2]
theorem s15c:ieL [((1:Int),(7:Int),(0:Int),([]:List AC),([]:List Int),())]=[0,1,0,8,7,0,0,0]/\ieE [((1:Int),(7:Int),(0:Int),([]:List AC),([]:List Int),())]=0:=by
 unfold ieL ieE;rw [if_pos s15r.1,if_pos s15r.1];exact ⟨s15r.2,rfl⟩
theorem zdB_:okI [((1:Int),(7:Int),(0:Int),([]:List AC),([]:List Int),())]:=(uM_ (by decide)).1
def hf_:IR:=
(sq (kr [] [oD 0 (.mov cF)])
(sq (.reg [oD 10 (.sliceAll (.int .u8) 8 [(0,1,(.c (.int .u8 0))),(1,1,(.c (.int .u8 1))),(2,1,(.c (.int .u8 0))),(3,1,(.c (.int .u8 8))),(4,1,(.c (.int .u8 7))),(5,1,(.c (.int .u8 0))),(6,1,(.c (.int .u8 0))),(7,1,(.c (.int .u8 0)))]),
oM 1 10])
(sq (kr [1] [oM 12 1,
oC 13 24 [12],
oM 11 13,
oX 14 11 0,
oX 15 11 1,
oM 2 14,
oM 3 15])
(sq (kr [1,2,3] [oD 17 (.slice0 (.int .u8)),
oM 18 1,
oD 19 (.append (.int .u8) 1 17 18),
oM 20 1,
oD 21 (.append (.int .u8) 1 19 20),
oC 22 24 [21],
oM 16 22,
oX 23 16 0,
oX 24 16 1,
oM 4 23,
oM 5 24])
(sq (kr [1,2,3,5] [oM 26 2,
oC 27 23 [26],
oM 25 27,
oX 28 25 0,
oX 29 25 1,
oM 6 28,
oM 7 29])
(sq (kr [1,2,3,5,6,7] [oM 31 2,
oC 32 60 [31],
oM 30 32,
oX 33 30 0,
oX 34 30 1,
oM 8 33,
oM 9 34])
(sq (kr [1,2,3,5,6,7,8,9] [oM 35 3,
oB 36 .eql 35 (cI 0),
oM 37 36,
oT 37 38 (.mov 2),
oT 37 39 (.len 38),
oT 37 40 (.bin .eql 39 (cI 1)),
oP 41 37 40 cF,
oM 42 41,
oT 42 43 (.mov 2),
oT 42 44 (.indexSl 5 43 (cI 0)),
oT 42 45 (.fieldAddr 0 44),
oT 42 46 (.load none 45),
oT 42 47 (.bin .eql 46 (cI 1)),
oP 48 42 47 cF,
oM 49 48,
oT 49 50 (.mov 9),
oP 51 49 50 cF,
oM 52 51,
oT 52 53 (.mov 8),
oT 52 54 (.bin .eql 53 (cI 7)),
oP 55 52 54 cF,
oM 56 55,
oT 56 57 (.mov 5),
oT 56 58 (.bin .eql 57 (cI 778)),
oP 59 56 58 cF,
oM 60 59,
oT 60 61 (.mov 7),
oT 60 62 (.bin .eql 61 (cI 0)),
oP 63 60 62 cF,
oM 64 63,
oT 64 65 (.mov 6),
oT 64 66 (.mov 1),
oT 64 67 (.call false (.f 20) [65,66]),
oP 68 64 67 cF,
oM 69 68,
oP 70 69 cT cF,
oM 0 70])
.ret)))))))
def Gs_:List RD:=[.tmp 0 true none]
theorem GM_:zl_ Tryz.prog Tryz.f22 hf_ Gs_=true:=by kernel_rfl
def WV_:List AV->List Obj->Option (Prop × AV)
 | [],[]=>some ((True,.bool true))
 | _,_=>none
theorem Ul_:zf_ Tryz.prog 22 (RoF WV_).sum:=by
 refine zj_ Tryz.func22 GM_ (za_ (s:=RoF QI_) KS_ (za_ (s:=RoF qC_) QU_ (za_ (s:=RoF jZ_) Ym_ (za_ (s:=RoF qB_) qX_ (ze_ _))))) fun args objs p v e=>?_
 unfold WV_ at e
 split at e
 ·cases e
  refine ⟨rfl,fun hw ho hp=>?_⟩
  clear hw ho
  obtain ⟨a1,a2⟩:=s15a
  have a3:=s15b
  obtain ⟨a4,a5⟩:=s15c
  have a6:=zdB_
  have a7:nxOk [((1:Int),(7:Int),(0:Int),([]:List AC),([]:List Int),())]:=⟨fun i hi=>by rcases List.mem_singleton.1 hi with rfl;decide⟩
  repeat'(intro t ht;first|(cases t<;>first|(cases ht;done)|(try simp only[zh_]at ht;try(exfalso;first|contradiction|omega)))|((first|refine zb_ ht ?_|refine ht ?_ ?_|refine ht.1 ?_ ?_|refine ht ?_)<;>clear ht))
  all_goals first
   | exact True.intro
   | (show okI (idL [0,1,0,8,7,0,0,0]);rw [a1];exact a6)
   | (show nxOk (idL [0,1,0,8,7,0,0,0]);rw [a1];exact a7)
   | exact ⟨rfl,rfl⟩
   | exact absurd a3 ht
   | (rw [a1] at ht;first | exact absurd a5 ht | exact absurd a4 ht | exact absurd rfl ht | (exact absurd (by decide) ht))
   | (rw [a1];constructor<;>decide)
   | (rw [a1];decide)
   | (constructor<;>decide)
   | decide
 ·cases e
abbrev mT (m:VMs):=m.1
theorem zb7_ {a:AC} (h:rgA a=true):lenA a:=by
 by_cases h25:a.1=25
 ·obtain ⟨_,_,hd,_,_,_,hR⟩:=wY_ h25 h
  have hn:=qt_ hR
  unfold lenA;rw [hd]
  refine ⟨?_,?_,by decide⟩<;>omega
 ·obtain ⟨k1,k2,k3,k4,k5,k6,k7⟩:=Kb_ h25 h
  obtain ⟨_,_,_,_,e5,e6⟩:=uw_ k2
  unfold lenA;rw [e5,e6]
  refine ⟨by decide,by decide,?_⟩
  rcases k7 with ⟨_,_,k⟩ | ⟨_,k⟩
  ·omega
  ·rw [k];decide
theorem zdq_ {l:List AC} (h:rgL l=true):okL l:=by
 obtain ⟨h1,h2,_⟩:=K0_ h
 exact ⟨fun o ho=>zb7_ (List.all_eq_true.1 h1 o ho),by omega⟩
theorem zds_ {l:List VIn} (h:rgI l=true) (hn:l.length<=1000):okI l:=by
 unfold rgI at h
 simp only [Bool.and_eq_true,decide_eq_true_eq] at h
 refine ⟨fun i hi=>?_,hn⟩
 obtain ⟨y,hy⟩:=Option.isSome_iff_exists.1 (yZ_ h.1 i hi)
 obtain ⟨_,_,_,_,_,_,_,_,r,s,l⟩:=w7_.1 hy
 refine ⟨zdq_ r,?_⟩
 have:=congrArg List.length s
 simp only [List.length_append] at this
 omega
theorem zep_ {l:List VIn} (h:rgI l=true):8*l.length<=(boI l).length:=by
 unfold rgI at h
 simp only [Bool.and_eq_true,decide_eq_true_eq] at h
 exact (bT_ (yZ_ h.1)).1
theorem zdP_ {l:List VIn} (h:Ty.wf (.sl Y3) l):∀ i ∈ l,wfI i:=fun i hi=>by
 obtain ⟨h1,h2,h3,h4,h5,_⟩:=h.1 i hi
 have u64:∀ {n:Int},Ty.wf (.int .u64) n->0<=n/\n<=18446744073709551615:=fun {n} hn=>by
  unfold Ty.wf inK at hn;rw [U5_,U6_] at hn;exact hn
 have ha:=zeb_ (l:=i.2.2.2.1) h4
 exact ⟨u64 h2,u64 h3,fun o ho=>⟨(ha o ho).1,(ha o ho).2.2.2.2.1,(ha o ho).2.2.2.2.2⟩⟩
theorem zc2_:∀ (n:Nat) (y:List Int) (acc:List VIn),y.length<=n->(inG acc y).2=0->y.length % 8=0
 | 0,y,_,hn,_=>by omega
 | n+1,y,acc,hn,h=>by
   by_cases h0:y.length=0
   ·omega
   ·by_cases h1:inE acc y=0
    ·obtain ⟨k1,k2,k3⟩:=vt_ h1
     rw [Xp_ h0 h1 (by omega)] at h
     have ih:=zc2_ n (y.drop (tN y).toNat) _ (by rw [List.length_drop];omega) h
     rw [List.length_drop] at ih
     rw [Int.tmod_eq_emod_of_nonneg (by omega)] at k3
     omega
    ·rw [jI_ h0 h1] at h;exact absurd h h1
theorem id_8 {y:List Int} (h:idE y=0):y.length % 8=0:=by
 unfold idE at h
 split at h
 ·rename_i c;exact absurd h c
 ·rename_i c;exact zc2_ y.length y [] (Nat.le_refl _) (Classical.byContradiction c)
theorem zcs_ {y:List Int} (h:idE y=0) (h0:0 < y.length):¬ idE (y.take ((y.length:Int) - 1).toNat)=0:=fun h2=>by
 have h3:=id_8 h
 have h4:=id_8 h2
 rw [List.length_take] at h4
 omega
theorem zeB_ {l:List VIn} (hw:∀ i ∈ l,wfI i) (h:ieE l=0):idE (ieL l)=0/\idL (ieL l)=l:=by
 have hr:rgI l=true:=by
  cases hr:rgI l with
  | true=>rfl
  | false=>unfold ieE at h;rw [if_neg (by rw [hr];decide)] at h;cases h
 have e:ieL l=boI l:=if_pos hr
 obtain ⟨h1,h2⟩:=za7_ hr hw
 rw [e];exact ⟨h2,h1⟩
theorem zdU_ (l:List VIn):(ieL l).length<=65528:=by
 unfold ieL;split
 ·rename_i h;unfold rgI at h;simp only [Bool.and_eq_true,decide_eq_true_eq] at h;exact h.2
 ·exact Nat.zero_le _
theorem zeE_ {y:List Int} (hb:∀ x ∈ y,0<=x/\x<=255) (hl:y.length<=1500) (h:idE y=0):okI (idL y)/\ieE (idL y)=0/\ieL (idL y)=y/\rgI (idL y)=true:=by
 obtain ⟨h1,h2,_⟩:=zdV_ hb h
 have h3:=zep_ h1
 rw [h2] at h3
 exact ⟨zds_ h1 (by omega),if_pos h1,by unfold ieL;rw [if_pos h1,h2],h1⟩
def Xk_:IR:=
(sq (kr [0,1,2] [oD 6 (.mov cF)])
(sq (sq (kr [0,1,2] [oM 22 0,
oC 23 21 [22],
oD 24 (.un .not 23),
oM 25 24,
oF 25 26 (.mov 1),
oF 25 27 (.call false (.f 21) [26]),
oF 25 28 (.un .not 27),
oP 29 25 cT 28,
oM 30 29,
oF 30 31 (.mov 2),
oF 30 32 (.len 31),
oF 30 33 (.bin .gtr 32 (cI 1500)),
oP 34 30 cT 33])
(.cond 34
(sq (kr [] [oC 35 22 [],
oM 6 35])
.ret)
.skip))
(sq (sq (kr [0,1,2] [oM 37 0,
oC 38 23 [37],
oM 36 38,
oX 39 36 0,
oX 40 36 1,
oM 7 39,
oM 8 40])
(sq (kr [0,1,2,7,8] [oM 41 8,
oB 42 .eql 41 (cI 0)])
(.cond 42
(sq (kr [0,1,2,7] [oM 44 7,
oC 45 24 [44],
oM 43 45,
oX 46 43 0,
oX 47 43 1,
oM 9 46,
oM 10 47])
(sq (sq (kr [0,1,2,7,9,10] [oM 48 10,
oB 49 .neq 48 (cI 0),
oM 50 49,
oF 50 51 (.mov 9),
oF 50 52 (.mov 0),
oF 50 53 (.callL (.f 25) [51,52]),
oF 50 54 (.un .not 53),
oP 55 50 cT 54])
(.cond 55
(sq (kr [] [oD 6 (.mov cF)])
.ret)
.skip))
(sq (kr [0,1,2,7] [oM 56 7,
oE 57 56,
oB 58 .gtr 57 (cI 0)])
(.cond 58
(sq (kr [0,1,2,7] [oM 60 7,
oM 61 7,
oE 62 61,
oB 63 .sub 62 (cI 1),
oD 64 (.slice 1 60 none (some 63) none),
oC 65 24 [64],
oM 59 65,
oX 66 59 0,
oX 67 59 1,
oM 11 66,
oM 12 67])
(sq (kr [0,1,2,12] [oM 68 12,
oB 69 .eql 68 (cI 0)])
(.cond 69
(sq (.reg [oD 6 (.mov cF)])
.ret)
.skip)))
.skip))))
.skip)))
(sq (.reg [oM 70 0,
oD 71 (.callF (.f 26) [70]),
oM 13 71])
(sq (sq (kr [0,1,2,13] [oM 72 13,
oM 73 0,
oD 74 (.callL (.f 25) [72,73]),
oD 75 (.un .not 74),
oM 76 75,
oF 76 77 (.mov 13),
oF 76 78 (.mov 0),
oF 76 79 (.callL (.f 27) [77,78]),
oF 76 80 (.un .not 79),
oP 81 76 cT 80,
oM 82 81,
oF 82 83 (.mov 0),
oF 82 84 (.mov 1),
oF 82 85 (.callL (.f 27) [83,84]),
oF 82 86 (.mov 0),
oF 82 87 (.mov 1),
oF 82 88 (.callL (.f 25) [86,87]),
oF 82 89 (.eqb true 85 88),
oP 90 82 cT 89])
(.cond 90
(sq (kr [] [oD 6 (.mov cF)])
.ret)
.skip))
(sq (kr [0,2,13] [oM 91 0,
oD 92 (.callF (.f 26) [91]),
oM 14 92])
(sq (sq (.reg [oD 15 (.mov (cI 0))])
(.block 0
(.loop
(sq (sq (kr [0,2,13,14,15] [oM 93 15,
oM 94 13,
oE 95 94,
oB 96 .lss 93 95])
(.cond 96
.skip
(.exit 0)))
(sq (.block 1
(sq (.reg [oM 99 13,
oM 100 15,
oI 101 5 99 100,
oA 102 0 101,
oN (.store 1 102 (cI (-1)))])
(sq (sq (kr [0,2,13,14,15] [oD 16 (.mov (cI 0))])
(.block 2
(.loop
(sq (sq (kr [0,2,13,14,15,16] [oM 103 16,
oM 104 13,
oM 105 15,
oI 106 5 104 105,
oA 107 4 106,
oL 108 107,
oE 109 108,
oB 110 .lss 103 109])
(.cond 110
.skip
(.exit 2)))
(sq (.block 3
(kr [0,2,13,14,15,16] [oM 113 13,
oM 114 15,
oI 115 5 113 114,
oA 116 4 115,
oL 117 116,
oM 118 16,
oI 119 1 117 118,
oN (.store 1 119 (.c (.int .u8 7)))]))
(kr [0,2,13,14,15,16] [oM 111 16,
oB 112 .add 111 (cI 1),
oM 16 112]))))))
(sq (kr [0,2,13,14,15] [oD 17 (.mov (cI 0))])
(.block 4
(.loop
(sq (sq (kr [0,2,13,14,15,17] [oM 120 17,
oM 121 13,
oM 122 15,
oI 123 5 121 122,
oA 124 3 123,
oL 125 124,
oE 126 125,
oB 127 .lss 120 126])
(.cond 127
.skip
(.exit 4)))
(sq (.block 5
(kr [0,2,13,14,15,17] [oM 130 13,
oM 131 15,
oI 132 5 130 131,
oA 133 3 132,
oL 134 133,
oM 135 17,
oI 136 10 134 135,
oA 137 0 136,
oN (.store 1 137 (cI (-1)))]))
(kr [0,2,13,14,15,17] [oM 128 17,
oB 129 .add 128 (cI 1),
oM 17 129])))))))))
(kr [0,2,13,14,15] [oM 97 15,
oB 98 .add 97 (cI 1),
oM 15 98]))))))
(sq (sq (kr [0,2,14] [oM 138 14,
oM 139 0,
oD 140 (.callL (.f 25) [138,139]),
oD 141 (.un .not 140)])
(.cond 141
(sq (.reg [oD 6 (.mov cF)])
.ret)
.skip))
(sq (kr [2] [oM 143 2,
oC 144 24 [143],
oM 142 144,
oX 145 142 0,
oX 146 142 1,
oM 18 145,
oM 19 146])
(sq (sq (kr [2,18,19] [oM 147 19,
oB 148 .neq 147 (cI 0)])
(.cond 148
(sq (kr [18] [oM 149 18,
oE 150 149,
oB 151 .eql 150 (cI 0),
oM 152 151,
oT 152 153 (.call false (.f 22) []),
oP 154 152 153 cF,
oM 6 154])
.ret)
.skip))
(sq (kr [2,18] [oM 156 18,
oC 157 23 [156],
oM 155 157,
oX 158 155 0,
oX 159 155 1,
oM 20 158,
oM 21 159])
(sq (kr [2,18,20,21] [oM 160 21,
oB 161 .eql 160 (cI 0),
oM 162 161,
oT 162 163 (.mov 18),
oT 162 164 (.call false (.f 28) [163]),
oP 165 162 164 cF,
oM 166 165,
oT 166 167 (.mov 20),
oT 166 168 (.mov 2),
oT 166 169 (.call false (.f 20) [167,168]),
oP 170 166 169 cF,
oM 171 170,
oT 171 172 (.call false (.f 22) []),
oP 173 171 172 cF,
oM 6 173])
.ret))))))))))))
def x2_:List RD:=[.tmp 6 true none]
theorem Xa_:zl_ Tryz.prog Tryz.f5 Xk_ x2_=true:=by kernel_rfl
def kE_:List AV->List Obj->Option (Prop × AV)
 | [.imm ty0 l,.imm ty1 m,.imm (.int .u8) b],[]=>Zs_ ty0 Y3 l fun l=>Zs_ ty1 Y3 m fun m=>some ((True,.bool true))
 | _,_=>none
theorem W7_:zf_ Tryz.prog 5 (RoF kE_).sum:=by
 refine zj_ Tryz.func5 Xa_ (za_ (s:=RoF XI_) g3_ (za_ (s:=RoF WV_) Ul_ (za_ (s:=RoF qC_) QU_ (za_ (s:=RoF QI_) KS_ (za_ (s:=RoF WP_) Uf_ (za_ (s:=RoF Ki_) xX_ (za_ (s:=RoF jY_) Yl_ (za_ (s:=RoF KH_) yk_ (za_ (s:=RoF qB_) qX_ (ze_ _)))))))))) fun args objs p v e=>?_
 unfold kE_ at e
 split at e
 ·rename_i ty0 l ty1 m b
  obtain rfl:=zv_ e
  replace e:=zw_ e
  obtain rfl:=zv_ e
  replace e:=zw_ e
  cases e
  refine ⟨rfl,fun hw ho hp=>?_⟩
  change List Int at b
  change List VIn at l
  change List VIn at m
  have hwl:=zdP_ (l:=l) (hw (.imm Y3 l) (by simp))
  have hbb:∀ x ∈ (b:List Int),(0:Int)<=x/\x<=255:=fun x hx=>(hw (.imm (.int .u8) b) (by simp)).1 x hx
  have hla:∀ o ∈ l,o.2.2.2.1.length<=maxLen/\o.2.2.2.2.1.length<=maxLen:=fun o ho=>⟨((hw (.imm Y3 l) (by simp)).1 o ho).2.2.2.1.2,((hw (.imm Y3 l) (by simp)).1 o ho).2.2.2.2.1.2⟩
  unfold maxLen at hla
  clear hw ho
  by_cases hc:(KE_ l=true/\KE_ m=true)/\b.length<=1500
  ·obtain ⟨⟨h1,h2⟩,h3⟩:=hc
   obtain ⟨hok,hn⟩:=uM_ h1
   have hd:decide ((l:List VIn)=l)=true:=decide_eq_true rfl
   have r0:ieE l=0->idE (ieL l)=0/\idL (ieL l)=l:=zeB_ hwl
   have r1:ieE l=0->0 < (ieL l).length->¬ idE ((ieL l).take (((ieL l).length:Int) - 1).toNat)=0:=fun h h0=>zcs_ (r0 h).1 h0
   have hll:(ieL l).length<=65528:=zdU_ l
   have q0:idE b=0->okI (idL b)/\ieE (idL b)=0/\ieL (idL b)=b/\rgI (idL b)=true:=zeE_ hbb h3
   have q1:¬ idE b=0->idL b=[]:=fun h=>if_neg h
   have TB:(idE b=0/\okI (idL b)/\ieE (idL b)=0/\ieL (idL b)=b/\rgI (idL b)=true)\/(¬ idE b=0/\idL b=[]):=by
    by_cases h:idE b=0
    ·exact .inl ⟨h,q0 h⟩
    ·exact .inr ⟨h,q1 h⟩
   have he:∀ x:Bool,¬ (x == x)=false:=fun x=>by cases x<;>decide
   have htl:∀ n:Nat,((ieL l).take n).length<=100000000:=fun n=>by rw [List.length_take];omega
   repeat'(intro t ht;first|(cases t<;>first|(cases ht;done)|(try simp only[zh_]at ht;try(exfalso;first|contradiction|omega)))|((first|refine zb_ ht ?_|refine ht ?_ ?_|refine ht.1 ?_ ?_|refine ht ?_)<;>clear ht))
   all_goals first
    | exact True.intro
    | contradiction
    | exact hok
    | exact Nat.le_trans hll (by decide)
    | (exfalso;exact he _ (by assumption))
    | ((try simp only [zn_,zo_,zm_] at*);omega)
    | exact htl _
    | (exfalso;have g:=r0 (by assumption);simp_all;done)
    | (exfalso;have g:=r1 (by assumption) (by omega);simp_all;done)
    | (intro r h1 h2;clear h1;refine h2 ⟨[],[0,2,13,14,15],Bool × Nat,(fun a=>a.2<=l.length),fun a=>[.imm Y3 l,.imm (.int .u8) b,.jsl 0 Y3 l,.jsl 1 Y3 l,.int .i64 a.2],fun a=>[.reg true a.1,.reg true true],fun a=>l.length - a.2,⟨(true,0),Nat.zero_le _,rfl,rfl⟩,?_⟩;clear h2)
    | (exfalso;simp_all;done)
   all_goals
    rintro ⟨kn,i⟩ hi
    replace hi:i<=l.length:=hi
    cases kn
   all_goals repeat'(intro t ht;first|(cases t<;>first|(cases ht;done)|(try simp only[zh_]at ht;try(exfalso;first|contradiction|omega)))|((first|refine zb_ ht ?_|refine ht ?_ ?_|refine ht.1 ?_ ?_|refine ht ?_)<;>clear ht))
   all_goals (try generalize hod:(Ty.dflt Y3)=od at*)
   all_goals first
    | exact True.intro
    | contradiction
    | exact ⟨rfl,rfl⟩
    | exact ⟨True.intro,True.intro⟩
    | ((try simp only [zn_,zo_,zm_] at*);omega)
    | omega
    | exact (q0 (by assumption)).1
    | (simp only [Int.toNat_natCast];omega)
    | (rcases TB with ⟨g0,g1,g2,g3,g4⟩ | ⟨g0,g1⟩<;>first | contradiction | (simp_all;done))
    | (intro r h1 h2;clear h1;refine h2 ⟨[],[0,2,13,14,15,16],Bool × Nat,(fun a=>a.2<=(l.getD i od).2.2.2.2.1.length),fun a=>[.imm Y3 l,.imm (.int .u8) b,.jsl 0 Y3 l,.jsl 1 Y3 l,.int .i64 i,.int .i64 a.2],fun a=>[.reg true a.1,.reg true true],fun a=>(l.getD i od).2.2.2.2.1.length - a.2,⟨(false,0),Nat.zero_le _,rfl,rfl⟩,?_⟩;clear h2)
   all_goals
    rintro ⟨kn2,k⟩ hk
    replace hk:k<=(l.getD i od).2.2.2.2.1.length:=hk
    have hlt:i < l.length:=by omega
    obtain ⟨hln,hlm⟩:=hla _ (zW_ hlt od)
    cases kn2
   all_goals repeat'(intro t ht;first|(cases t<;>first|(cases ht;done)|(try simp only[zh_]at ht;try(exfalso;first|contradiction|omega)))|((first|refine zb_ ht ?_|refine ht ?_ ?_|refine ht.1 ?_ ?_|refine ht ?_)<;>clear ht))
   all_goals (try simp only [hod,Int.toNat_natCast] at ht ⊢)
   all_goals first
    | exact True.intro
    | contradiction
    | ((try simp only [zn_,zo_,zm_] at*);omega)
    | (simp only [Int.toNat_natCast];omega)
    | (dsimp only;omega)
    | omega
    | (refine ⟨(false,k+1),by dsimp only;omega,by dsimp only;omega,rfl,rfl⟩;done)
    | (intro r h1 h2;clear h1;refine h2 ⟨[],[0,2,13,14,15,17],Bool × Nat,(fun a=>a.2<=(l.getD i od).2.2.2.1.length),fun a=>[.imm Y3 l,.imm (.int .u8) b,.jsl 0 Y3 l,.jsl 1 Y3 l,.int .i64 i,.int .i64 a.2],fun a=>[.reg true a.1,.reg true true],fun a=>(l.getD i od).2.2.2.1.length - a.2,⟨(false,0),Nat.zero_le _,rfl,rfl⟩,?_⟩;clear h2)
    | (intro r h1 h2;clear h1;refine h2 ⟨[],[0,2,13,14,15,17],Bool × Nat,(fun a=>a.2<=(l.getD i od).2.2.2.1.length),fun a=>[.imm Y3 l,.imm (.int .u8) b,.jsl 0 Y3 l,.jsl 1 Y3 l,.int .i64 i,.int .i64 a.2],fun a=>[.reg true a.1,.reg true true],fun a=>(l.getD i od).2.2.2.1.length - a.2,⟨(true,0),Nat.zero_le _,rfl,rfl⟩,?_⟩;clear h2)
   all_goals
    rintro ⟨kn3,j⟩ hj
    replace hj:j<=(l.getD i od).2.2.2.1.length:=hj
    cases kn3
   all_goals repeat'(intro t ht;first|(cases t<;>first|(cases ht;done)|(try simp only[zh_]at ht;try(exfalso;first|contradiction|omega)))|((first|refine zb_ ht ?_|refine ht ?_ ?_|refine ht.1 ?_ ?_|refine ht ?_)<;>clear ht))
   all_goals (try simp only [hod,Int.toNat_natCast] at ht ⊢)
   all_goals first
    | exact True.intro
    | contradiction
    | ((try simp only [zn_,zo_,zm_] at*);omega)
    | (simp only [Int.toNat_natCast];omega)
    | (dsimp only;omega)
    | omega
    | (refine ⟨(false,j+1),by dsimp only;omega,by dsimp only;omega,rfl,rfl⟩;done)
    | (refine ⟨(false,i+1),by dsimp only;omega,by dsimp only;omega,rfl,rfl⟩;done)
    | (refine ⟨(true,i+1),by dsimp only;omega,by dsimp only;omega,rfl,rfl⟩;done)
  ·by_cases h1:KE_ l=true
   ·by_cases h2:KE_ m=true
    ·have h3:¬ b.length<=1500:=fun h=>hc ⟨⟨h1,h2⟩,h⟩
     repeat'(intro t ht;first|(cases t<;>first|(cases ht;done)|(try simp only[zh_]at ht;try(exfalso;first|contradiction|omega)))|((first|refine zb_ ht ?_|refine ht ?_ ?_|refine ht.1 ?_ ?_|refine ht ?_)<;>clear ht))
     all_goals first
      | exact True.intro
      | contradiction
      | exact ⟨rfl,rfl⟩
      | (exfalso;omega)
      | (exfalso;simp_all;done)
    ·repeat'(intro t ht;first|(cases t<;>first|(cases ht;done)|(try simp only[zh_]at ht;try(exfalso;first|contradiction|omega)))|((first|refine zb_ ht ?_|refine ht ?_ ?_|refine ht.1 ?_ ?_|refine ht ?_)<;>clear ht))
     all_goals first
      | exact True.intro
      | contradiction
      | exact ⟨rfl,rfl⟩
      | (exfalso;simp_all;done)
   ·repeat'(intro t ht;first|(cases t<;>first|(cases ht;done)|(try simp only[zh_]at ht;try(exfalso;first|contradiction|omega)))|((first|refine zb_ ht ?_|refine ht ?_ ?_|refine ht.1 ?_ ?_|refine ht ?_)<;>clear ht))
    all_goals first
     | exact True.intro
     | contradiction
     | exact ⟨rfl,rfl⟩
     | (exfalso;simp_all;done)
 ·cases e
end Go.Eng
