/- Parts of the proof: I5, I6, I7, Y1, Y2, Y3, Y4. No condition. -/
import Derived.Test.YteihcoggfaenaaaGreatDoorProg
import Derived.Test.YteihcoggfaenaaaGreatDoorWG10
import Derived.KernelRfl
import Derived.Test.YteihcoggfaenaaaGreatDoorWG22
namespace Go.Eng
open Go.Proofs
set_option linter.unusedVariables false
set_option linter.unusedSimpArgs false
set_option maxRecDepth 100000
set_option maxHeartbeats 1000000
def gb_:IR:=
(sq (kr [] [oD 0 (.box [.int .i64 0,.int .i64 0,.kb false,.int .i64 0,.int .i64 0])])
(sq (.reg [oD 1 (.build [.int .i64 0,.int .i64 0,.kb false,.int .i64 0,.int .i64 0] [(0,1,(cI 8)),(1,1,(cI 8)),(3,1,(cI 776)),(4,1,(cI 776))]),
oS 5 0 1])
.ret))
def Uj_:List RD:=[.cell 0 (some 5) true []]
theorem UL_:zm_ Tryz.prog Tryz.f125 gb_ Uj_=true:=by kernel_rfl
def qw_:List AV->List Obj->Option (Prop × AV)
 | [],[]=>some ((True,.agg [.int .i64 8,.int .i64 8,.bool false,.int .i64 776,.int .i64 776]))
 | _,_=>none
theorem Qw_:zd_ Tryz.prog 125 (RoF qw_).sum:=by
 refine zi_ Tryz.func125 UL_ (zc_ _) fun args objs p v e=>?_
 unfold qw_ at e
 split at e
 ·cases e
  refine ⟨rfl,fun hw ho hp=>?_⟩
  repeat'(intro t ht;first|(cases t<;>first|(cases ht;done)|(try simp only[zg_]at ht;try(exfalso;first|contradiction|omega)))|((first|refine zb_ ht ?_|refine ht ?_ ?_|refine ht.1 ?_ ?_|refine ht ?_)<;>clear ht))
  all_goals first
   | exact True.intro
   | exact ⟨rfl,rfl⟩
 ·cases e
theorem zlS_ (l:List VIn):jnB (l.map itI)=boI l:=by
 unfold jnB boI;rw [List.flatMap_map];rfl
theorem zlA_ {l:List VIn} (h:gdL [] l=true) (hn:l.length<=1000):okJ (l.map itI):=by
 refine ⟨fun x hx=>?_,by rw [List.length_map];exact hn⟩
 obtain ⟨i,hi,rfl⟩:=List.mem_map.1 hx
 obtain ⟨y,hy⟩:=Option.isSome_iff_exists.1 (B5_ h i hi)
 obtain ⟨b1,b2,b3⟩:=ziX_ hy
 have hk:=zkT_ (YE_.1 hy).k
 have e:(itI i).2.1=y:=ziY_ hy
 rw [e]
 exact ⟨hk,b1,b2,by omega⟩
theorem zmS_ {l:List VIn} (h:gdL [] l=false):ieL l=[]/\ieE l=10001:=by
 have:rgI l=false:=by unfold rgI;rw [h];rfl
 unfold ieL ieE;rw [this];exact ⟨rfl,rfl⟩
theorem zj9_ {l:List VIn} (h:65528 < (boI l).length):ieL l=[]/\ieE l=10001:=by
 have:rgI l=false:=by unfold rgI;rw [decide_eq_false (by omega),Bool.and_false]
 unfold ieL ieE;rw [this];exact ⟨rfl,rfl⟩
theorem zmR_ {l:List VIn} (h:gdL [] l=true) (h2:¬ 65528 < (boI l).length):ieL l=boI l/\ieE l=0:=by
 have:rgI l=true:=by unfold rgI;rw [h,decide_eq_true (by omega)];rfl
 unfold ieL ieE;rw [this];exact ⟨rfl,rfl⟩
def uh_:IR:=
(sq (kr [0] [oD 2 (.mov (.c (.imm (.int .u8) []))),
oD 3 (.mov (cI 0))])
(sq (kr [0] [oM 9 0,
oC 10 123 [9],
oM 8 10,
oX 11 8 0,
oX 12 8 1,
oM 4 11,
oM 5 12])
(sq (sq (kr [4,5] [oM 13 5,
oD 14 (.un .not 13)])
(.cond 14
(sq (.reg [oD 2 (.mov (.c (.imm (.int .u8) []))),
oD 3 (.mov (cI 10001))])
.ret)
.skip))
(sq (kr [4] [oC 16 125 [],
oM 17 4,
oC 18 124 [16,17],
oM 15 18,
oX 19 15 0,
oX 20 15 1,
oM 6 19,
oM 7 20])
(sq (sq (kr [6,7] [oM 21 7,
oB 22 .neq 21 (cI 0),
oM 23 22,
oF 23 24 (.mov 6),
oF 23 25 (.len 24),
oF 23 26 (.bin .gtr 25 (cI 65528)),
oP 27 23 cT 26])
(.cond 27
(sq (kr [] [oD 2 (.mov (.c (.imm (.int .u8) []))),
oD 3 (.mov (cI 10001))])
.ret)
.skip))
(sq (kr [6] [oM 28 6,
oM 2 28,
oD 3 (.mov (cI 0))])
.ret))))))
def VR_:List RD:=[.tmp 2 true (some (.int .u8)),.tmp 3 true none]
theorem V3_:zm_ Tryz.prog Tryz.f73 uh_ VR_=true:=by kernel_rfl
def jp_:List AV->List Obj->Option (Prop × AV)
 | [.imm ty0 l],[]=>ZY_ ty0 Y3 l fun l=>some ((okI l,.tup [.imm (.int .u8) (ieL l),.int .i64 (ieE l)]))
 | _,_=>none
theorem YY_:zd_ Tryz.prog 73 (RoF jp_).sum:=by
 refine zi_ Tryz.func73 V3_ (za_ (s:=RoF Jb_) VG_ (za_ (s:=RoF qw_) Qw_ (za_ (s:=RoF yx_) HT_ (zc_ _)))) fun args objs p v e=>?_
 unfold jp_ at e
 split at e
 ·rename_i ty0 l
  obtain rfl:=zY_ e
  replace e:=zZ_ e
  cases e
  refine ⟨rfl,fun hw ho hp=>?_⟩
  change List VIn at l
  clear hw ho
  have hok:=hp
  cases hg:gdL [] l with
  | false=>
    obtain ⟨e1,e2⟩:=zmS_ hg
    rw [e1,e2]
    repeat'(intro t ht;first|(cases t<;>first|(cases ht;done)|(try simp only[zg_]at ht;try(exfalso;first|contradiction|omega)))|((first|refine zb_ ht ?_|refine ht ?_ ?_|refine ht.1 ?_ ?_|refine ht ?_)<;>clear ht))
    all_goals first
     | exact True.intro
     | exact hok
     | exact ⟨rfl,rfl⟩
     | (exfalso;simp_all;done)
  | true=>
    have hj:=zlA_ hg hok.n
    have hL:itL l=l.map itI:=if_pos hg
    have hB:=zlS_ l
    repeat'(intro t ht;first|(cases t<;>first|(cases ht;done)|(try simp only[zg_]at ht;try(exfalso;first|contradiction|omega)))|((first|refine zb_ ht ?_|refine ht ?_ ?_|refine ht.1 ?_ ?_|refine ht ?_)<;>clear ht))
    all_goals (try simp only [hL,hB] at*)
    all_goals first
     | exact True.intro
     | exact hok
     | exact ⟨by decide,by decide,by decide,by decide,by decide,hj⟩
     | (exfalso;simp_all;done)
     | (obtain ⟨e1,e2⟩:=zmR_ hg (by omega)
        rw [e1,e2];exact ⟨rfl,True.intro⟩)
     | (obtain ⟨e1,e2⟩:=zj9_ (l:=l) (by omega)
        rw [e1,e2];exact ⟨rfl,True.intro⟩)
 ·cases e
theorem zka_ (l:List VIn):(ieL l).length<=65528:=by
 unfold ieL;split
 ·rename_i h;unfold rgI at h;simp only [Bool.and_eq_true,decide_eq_true_eq] at h;exact h.2
 ·exact Nat.zero_le _
def ipB (l:List Int) (room e:Int) (x:List VIn):List Int:=kH_ (ieL x) l room (zv_ e (ieE x))
def ipE (l:List Int) (room e:Int) (x:List VIn):Int:=QS_ (ieL x) l room (zv_ e (ieE x))
def BW_:IR:=
(sq (kr [0,1] [oM 7 1,
oC 8 73 [7],
oM 6 8,
oX 9 6 0,
oX 10 6 1,
oM 4 9,
oM 5 10])
(sq (kr [0,4,5] [oM 11 0,
oM 12 5,
oC 13 34 [11,12]])
(.reg [oM 14 0,
oM 15 4,
oC 16 65 [14,15]])))
def bE_:List RD:=[]
theorem Bf_:zm_ Tryz.prog Tryz.f32 BW_ bE_=true:=by kernel_rfl
def Xl_:List AV->List Obj->Option (Prop × AV × List Obj)
 | [.ptr 0 0,.imm ty0 x],[.box [.own 1,.int .i64 room,.mapv 2,.int .i64 e],.row false (.int .u8) l,.map sq (.int .i64) (.int .i64) h]=>ZY_ ty0 Y3 x fun x=>some ((okI x/\0<=room/\room<=1000000/\l.length<=1000000,.tup [],[.box [.own 3,.int .i64 room,.mapv 2,.int .i64 (ipE l room e x)],.dead,.map sq (.int .i64) (.int .i64) h,.row false (.int .u8) (ipB l room e x)]))
 | _,_=>none
theorem Gg_:zd_ Tryz.prog 32 (RwF Xl_).sum:=by
 refine qa_ Tryz.func32 Bf_ (za_ (s:=RoF jp_) YY_ (za_ (s:=RwF zF_) zJ_ (za_ (s:=RwF zx_) zB_ (zc_ _)))) fun args objs p v o e=>?_
 unfold Xl_ at e
 split at e
 ·rename_i ty0 x room e l sq h
  obtain rfl:=zY_ e
  replace e:=zZ_ e
  cases e
  refine ⟨rfl,fun hw ho hp=>?_⟩
  change List Int at l
  have hx:=zka_ x
  clear hw ho
  repeat'(intro t ht;first|(cases t<;>first|(cases ht;done)|(try simp only[zg_]at ht;try(exfalso;first|contradiction|omega)))|((first|refine zb_ ht ?_|refine ht ?_ ?_|refine ht.1 ?_ ?_|refine ht ?_)<;>clear ht))
  all_goals first
   | exact True.intro
   | exact hp.1
   | exact ⟨hp.2.1,hp.2.2.1,hp.2.2.2,Nat.le_trans hx (by decide)⟩
   | exact ⟨rfl,rfl⟩
 ·cases e
theorem zhQ_ {t:Int} {x:List Int} (hk:¬ zQ_ (wI t) x=0):o5K t x=false/\o5A t x=0/\o5B t x=0:=by
 refine ⟨by unfold o5K;rw [decide_eq_false hk];rfl,?_,?_⟩
 ·unfold o5A o5N QR_;rw [if_pos rfl,show (0:Int).toNat=0 from rfl,List.drop_zero,gr_ hk];rfl
 ·unfold o5B o5N QR_;rw [if_pos rfl,show (0:Int).toNat=0 from rfl,List.drop_zero,gr_ hk];rfl
theorem zkk_ {t:Int} {x:List Int}:(zQ_ (wI t) x=0->Kg_ (wI t) x 0 776 776 0=0/\kC_ (wI t) x 0 0=sI t)/\(¬ zQ_ (wI t) x=0->Kg_ (wI t) x 0 776 776 0=776/\kC_ (wI t) x 0 0=0):=by
 have hK:=KF_ (wI t) x
 unfold Kg_ kC_
 rw [if_pos rfl,if_pos rfl,show (0:Int).toNat=0 from rfl,List.drop_zero]
 constructor
 ·intro h
  rw [if_neg (by omega),if_neg (by omega),if_neg (by omega),if_neg (by omega)]
  exact ⟨rfl,by unfold sI;omega⟩
 ·intro h
  rcases hK with h1 | h1 | h1
  ·exact absurd h1 h
  ·rw [if_pos h1,if_pos h1];exact ⟨rfl,rfl⟩
  ·rw [if_neg (by omega),if_pos h1,if_neg (by omega),if_pos h1];exact ⟨rfl,rfl⟩
theorem zle_ (t:Int):(wI t).length<=3:=by
 unfold wI
 repeat' split
 all_goals decide
theorem zhr_ {x:List Int} {p sh:Int} (h0:0<=p) (h1:p<=x.length) (e:Int):Z1_ (x.length - p) x p sh e=e/\(e=0->Qn_ (x.length - p) x p sh e=x.drop p.toNat):=by
 have hE:Z1_ (x.length - p) x p sh e=e:=by unfold Z1_;rw [if_neg (by omega),if_neg (by omega)]
 refine ⟨hE,fun h=>?_⟩
 unfold Qn_;rw [hE,if_pos h,List.take_of_length_le (by omega)]
theorem zmg_ {x:List Int} {p sh:Int} (h0:0<=p) (h1:p<=x.length) (e:Int):atE (x.length - p) x p sh e=(if e=0 then adE (x.drop p.toNat) else e)/\atL (x.length - p) x p sh e=(if e=0 then adL (x.drop p.toNat) else []):=by
 obtain ⟨a,b⟩:=zhr_ (sh:=sh) h0 h1 e
 unfold atE atL
 rw [a]
 by_cases h:e=0
 ·rw [if_pos h,if_pos h,if_pos h,if_pos h,b h];exact ⟨rfl,rfl⟩
 ·rw [if_neg h,if_neg h,if_neg h,if_neg h];exact ⟨rfl,rfl⟩
theorem zhP_ {s:Bool} {t:Int} {x:List Int} (h:kI t=false):o5E s t x=769/\o5V s t x=(t,0,0,[],[],()):=by
 unfold o5E o5V;rw [if_pos h,if_pos (.inl h)];exact ⟨rfl,rfl⟩
theorem zhO_ {s:Bool} {t:Int} {x:List Int} (h:kI t=true) (hs:s=true) (h6:¬ t=65535):o5E s t x=778/\o5V s t x=(t,0,0,[],[],()):=by
 unfold o5E o5V;rw [if_neg (by rw [h];decide),if_pos ⟨hs,h6⟩,if_pos (.inr ⟨hs,h6⟩)];exact ⟨rfl,rfl⟩
theorem zd7_ {s:Bool} {t:Int} {x:List Int} (h:kI t=true) (hs:¬ (s=true/\¬ t=65535)):o5E s t x=(if o5K t x=false then 776 else if t=65535 then 0 else if ¬ qI t (o5A t x) (o5B t x)=0 then qI t (o5A t x) (o5B t x) else adE (o5R t x))/\o5V s t x=(t,o5A t x,o5B t x,(if o5E s t x=0/\¬ t=65535 then adL (o5R t x) else []),(if o5K t x=true/\t=65535 then o5R t x else []),()):=by
 constructor
 ·unfold o5E;rw [if_neg (by rw [h];decide),if_neg hs]
 ·unfold o5V;rw [if_neg]
  rintro (c | c)
  ·rw [h] at c;cases c
  ·exact hs c
theorem bR_ {s:Bool} {t:Int} {x:List Int} (h:kI t=true) (hs:¬ (s=true/\¬ t=65535)) (ho:o5K t x=false):o5E s t x=776/\o5V s t x=(t,o5A t x,o5B t x,[],[],()):=by
 obtain ⟨a,b⟩:=zd7_ (x:=x) h hs
 rw [if_pos ho] at a
 rw [b,a,ho,if_neg (fun c=>by cases c.1),if_neg (fun c=>by cases c.1)];exact ⟨rfl,rfl⟩
theorem zkQ_ {s:Bool} {x:List Int} (ho:o5K 65535 x=true):o5E s 65535 x=0/\o5V s 65535 x=(65535,o5A 65535 x,o5B 65535 x,[],o5R 65535 x,()):=by
 obtain ⟨a,b⟩:=zd7_ (s:=s) (t:=65535) (x:=x) rfl (fun c=>c.2 rfl)
 rw [if_neg (by rw [ho];decide),if_pos rfl] at a
 rw [b,ho,if_neg (fun c=>c.2 rfl),if_pos ⟨rfl,rfl⟩];exact ⟨a,rfl⟩
theorem zkP_ {s:Bool} {t:Int} {x:List Int} (h:kI t=true) (hs:¬ (s=true/\¬ t=65535)) (ho:o5K t x=true) (h6:¬ t=65535):o5E s t x=(if qI t (o5A t x) (o5B t x)=0 then adE (o5R t x) else qI t (o5A t x) (o5B t x))/\o5V s t x=(t,o5A t x,o5B t x,(if qI t (o5A t x) (o5B t x)=0 then adL (o5R t x) else []),[],()):=by
 obtain ⟨a,b⟩:=zd7_ (x:=x) h hs
 rw [if_neg (by rw [ho];decide),if_neg h6] at a
 rw [b,a,if_neg (fun c:o5K t x=true/\t=65535=>h6 c.2)]
 by_cases hq:qI t (o5A t x) (o5B t x)=0
 ·rw [if_neg (not_not_intro hq),if_pos hq,if_pos hq]
  refine ⟨rfl,?_⟩
  by_cases h0:adE (o5R t x)=0
  ·rw [if_pos ⟨h0,h6⟩]
  ·rw [if_neg (fun c=>h0 c.1)]
   have:adL (o5R t x)=[]:=by unfold adL;rw [if_neg h0]
   rw [this]
 ·rw [if_pos hq,if_neg hq,if_neg hq,if_neg (fun c:qI t (o5A t x) (o5B t x)=0/\¬ t=65535=>hq c.1)];exact ⟨rfl,rfl⟩
def BV_:IR:=
(sq (kr [0,1] [oD 2 (.boxv 0),
oD 4 (.box [.int .i64 0,.int .u64 0,.int .u64 0,.imm Y2 [],.imm (.int .u8) []]),
oD 5 (.mov (cI 0))])
(sq (.reg [oA 12 0 2,
oL 13 12,
oD 14 (.build [.int .i64 0,.int .u64 0,.int .u64 0,.imm Y2 [],.imm (.int .u8) []] [(0,1,13)]),
oD 6 (.box [.int .i64 0,.int .u64 0,.int .u64 0,.imm Y2 [],.imm (.int .u8) []]),
oS 5 6 14])
(sq (kr [1,2,4,6] [oA 16 0 2,
oL 17 16,
oC 18 159 [17],
oM 15 18,
oX 19 15 0,
oX 20 15 1,
oX 21 15 2,
oM 7 19,
oM 8 20,
oM 9 21])
(sq (.block 0
(sq (kr [1,2,4,6,7,8,9] [oM 23 9,
oD 24 (.un .not 23),
oM 22 24])
(.cond 22
(sq (.reg [oK 25 5 6,
oS 5 4 25,
oD 5 (.mov (cI 769))])
.ret)
(sq (kr [1,2,4,6,7,8] [oM 27 1,
oA 28 0 2,
oL 29 28,
oD 30 (.mget (.int .i64) (.int .i64) (0:Int) false 27 29),
oB 31 .gtr 30 (cI 0),
oM 32 31,
oT 32 33 (.fieldAddr 0 2),
oT 32 34 (.load none 33),
oT 32 35 (.bin .neq 34 (cI 65535)),
oP 36 32 35 cF,
oM 26 36])
(.cond 26
(sq (kr [4,6] [oK 37 5 6,
oS 5 4 37,
oD 5 (.mov (cI 778))])
.ret)
.skip)))))
(sq (kr [2,4,6,7,8] [oA 38 1 2,
oL 39 38,
oC 40 41 [39,(cI 776),(cI 776)],
oM 10 40])
(sq (kr [2,4,6,7,8,10] [oM 41 10,
oM 42 7,
oC 43 42 [41,42],
oD 44 (.sliceAll (.int .u64) 2 [(0,1,(.c (.int .u64 0))),(1,1,(.c (.int .u64 0)))]),
oD 45 (.append (.int .u64) 8 43 44),
oM 11 45])
(sq (kd [2,4,6,8,10,11] [(oM 46 11,[]),
(oD 47 (.indexSl 1 46 (cI 0)),[]),
(oL 48 47,[]),
(oM 49 11,[0,0,0]),
(oD 50 (.indexSl 1 49 (cI 1)),[1,0,0]),
(oL 51 50,[2,0,0]),
(oA 52 1 6,[0,0,0]),
(oS 1 52 48,[1,0,0]),
(oA 53 2 6,[]),
(oS 1 53 51,[])])
(sq (.block 1
(sq (kr [2,4,6,8,10] [oM 64 10,
oC 65 43 [64],
oB 66 .neq 65 (cI 0),
oM 63 66])
(.cond 63
.skip
(sq (kr [2,4,6,8,10] [oM 68 8,
oD 69 (.un .not 68),
oM 70 69,
oT 70 71 (.mov 10),
oT 70 72 (.call false (.f 47) [71]),
oT 70 73 (.bin .gtr 72 (cI 0)),
oP 74 70 73 cF,
oM 67 74])
(.cond 67
(kr [4,6,10] [oM 75 10,
oC 76 44 [75,(cI 776)]])
(sq (kr [2,4,6,10] [oA 78 0 2,
oL 79 78,
oB 80 .eql 79 (cI 65535),
oM 77 80])
(.cond 77
(.reg [oM 81 10,
oC 82 99 [81],
oA 83 4 6,
oS 1 83 82])
(sq (.reg [oM 54 10,
oK 55 5 6,
oC 56 160 [55],
oC 57 44 [54,56]])
(kr [4,6,10] [oM 58 10,
oM 59 10,
oC 60 47 [59],
oC 61 161 [58,60],
oA 62 3 6,
oS 1 62 61])))))))))
(sq (kd [4,6,10] [(oK 84 5 6,[]),
(oM 85 10,[0]),
(oC 86 43 [85],[1]),
(oS 5 4 84,[]),
(oM 5 86,[])])
.ret)))))))))
def bD_:List RD:=[.cell 4 (some 5) true [],.tmp 5 true none]
theorem Be_:zm_ Tryz.prog Tryz.f137 BV_ bD_=true:=by kernel_rfl
def Kk_:List AV->List Obj->Option (Prop × AV)
 | [.agg [.int .i64 tt,.imm (.int .u8) x],.mapv 0],[.map sq (.int .i64) (.int .i64) m]=>some ((x.length<=100000,.tup [.agg [.int .i64 ((o5V (decide (0 < (zy_ m tt).getD 0)) tt x)).1,.int .u64 ((o5V (decide (0 < (zy_ m tt).getD 0)) tt x)).2.1,.int .u64 ((o5V (decide (0 < (zy_ m tt).getD 0)) tt x)).2.2.1,.imm Y2 ((o5V (decide (0 < (zy_ m tt).getD 0)) tt x)).2.2.2.1,.imm (.int .u8) ((o5V (decide (0 < (zy_ m tt).getD 0)) tt x)).2.2.2.2.1],.int .i64 (o5E (decide (0 < (zy_ m tt).getD 0)) tt x)]))
 | _,_=>none
theorem jX_:zd_ Tryz.prog 137 (RoF Kk_).sum:=by
 refine zi_ Tryz.func137 Be_ (za_ (s:=RoF KR_) xf_ (za_ (s:=RwF ZP_) ZQ_ (za_ (s:=RwF ZX_) QD_ (za_ (s:=RoF zp_) zq_ (za_ (s:=RoF zW_) Za_ (za_ (s:=RwF zs_) zt_ (za_ (s:=RwF Zl_) ZL_ (za_ (s:=RoF kZ_) Wc_ (za_ (s:=RwF Xo_) Gj_ (zc_ _)))))))))) fun args objs p v e=>?_
 unfold Kk_ at e
 split at e
 ·rename_i tt x sq m
  cases e
  refine ⟨rfl,fun hw ho hp=>?_⟩
  change List Int at x
  clear hw ho
  change List (Int × Int) at m
  obtain ⟨c1,c2⟩:=zkk_ (t:=tt) (x:=x)
  have hcl:=zkm_ (wI tt) x 0 0
  have hwl:=zle_ tt
  have hll:(QR_ (wI tt) x 0 0++[0,0]).length=(QR_ (wI tt) x 0 0).length+2:=by rw [List.length_append];rfl
  cases hk:kI tt with
  | false=>
    have hk':¬ kI tt=true:=fun z=>by rw [hk] at z;cases z
    obtain ⟨e1,e2⟩:=zhP_ (s:=decide (0 < (zy_ m tt).getD 0)) (x:=x) hk
    rw [e1,e2]
    repeat'(intro t ht;first|(cases t<;>first|(cases ht;done)|(try simp only[zg_]at ht;try(exfalso;first|contradiction|omega)))|((first|refine zb_ ht ?_|refine ht ?_ ?_|refine ht.1 ?_ ?_|refine ht ?_)<;>clear ht))
    all_goals first
     | exact True.intro
     | exact ⟨rfl,rfl⟩
  | true=>
    have hk':¬ kI tt=false:=fun z=>by rw [hk] at z;cases z
    obtain ⟨w1,w2⟩:=zay_ hk
    by_cases hs:(@LT.lt Int Int.instLTInt 0 (@Option.getD (Ty.den (.int .i64)) (@zy_ (Ty.den (.int .i64)) (Ty.den (.int .i64)) (Ty.deq (.int .i64)) m tt) (0:Int)))/\¬ tt=65535
    ·obtain ⟨e1,e2⟩:=zhO_ (s:=decide (0 < (zy_ m tt).getD 0)) (x:=x) hk (decide_eq_true hs.1) hs.2
     rw [e1,e2]
     repeat'(intro t ht;first|(cases t<;>first|(cases ht;done)|(try simp only[zg_]at ht;try(exfalso;first|contradiction|omega)))|((first|refine zb_ ht ?_|refine ht ?_ ?_|refine ht.1 ?_ ?_|refine ht ?_)<;>clear ht))
     all_goals first
      | exact True.intro
      | exact ⟨rfl,rfl⟩
      | (exfalso;omega)
    ·have hs':¬ (decide (0 < (zy_ m tt).getD 0)=true/\¬ tt=65535):=fun c=>hs ⟨of_decide_eq_true c.1,c.2⟩
     by_cases hg:zQ_ (wI tt) x=0
     ·obtain ⟨q1,q2⟩:=c1 hg
      have q3:=zkl_ (w:=wI tt) (b:=x) (p:=0) (e:=0) (by decide) (by omega)
      have q4:=q3
      rw [q2] at q3
      clear c1 c2
      by_cases hmo:mI tt=true\/(x.length:Int)<=sI tt
      ·have ho:o5K tt x=true:=by unfold o5K;rw [decide_eq_true hg,Bool.true_and,Bool.or_eq_true,decide_eq_true_eq];exact hmo
       by_cases h6:tt=65535
       ·subst h6
        obtain ⟨e1,e2⟩:=zkQ_ (s:=decide (0 < (zy_ m 65535).getD 0)) (x:=x) ho
        rw [e1,e2]
        repeat'(intro t ht;first|(cases t<;>first|(cases ht;done)|(try simp only[zg_]at ht;try(exfalso;first|contradiction|omega)))|((first|refine zb_ ht ?_|refine ht ?_ ?_|refine ht.1 ?_ ?_|refine ht ?_)<;>clear ht))
        all_goals first
         | exact True.intro
         | exact Nat.le_trans hp (by decide)
         | exact ⟨by decide,by omega,Nat.le_trans hp (by decide)⟩
         | exact ⟨q4.1,q4.2⟩
         | exact ⟨q4.1,q4.2,by omega,by decide⟩
         | (simp only [hll,List.length_cons,List.length_nil];first | omega | (constructor<;>omega))
         | (rw [q1,q2];exact ⟨rfl,rfl⟩)
         | (exfalso;omega)
       ·obtain ⟨e1,e2⟩:=zkP_ (x:=x) hk hs' ho h6
        rw [e1,e2]
        obtain ⟨A,B⟩:=zmg_ (sh:=776) q3.1 q3.2 (qI tt (o5A tt x) (o5B tt x))
        unfold o5R
        rw [<- A,<- B]
        repeat'(intro t ht;first|(cases t<;>first|(cases ht;done)|(try simp only[zg_]at ht;try(exfalso;first|contradiction|omega)))|((first|refine zb_ ht ?_|refine ht ?_ ?_|refine ht.1 ?_ ?_|refine ht ?_)<;>clear ht))
        all_goals first
         | exact True.intro
         | exact Nat.le_trans hp (by decide)
         | exact ⟨by decide,by omega,Nat.le_trans hp (by decide)⟩
         | exact ⟨q4.1,q4.2⟩
         | exact ⟨q4.1,q4.2,by omega,by decide⟩
         | (simp only [hll,List.length_cons,List.length_nil];first | omega | (constructor<;>omega))
         | (rw [q1,q2];exact ⟨rfl,rfl⟩)
         | (exfalso;rcases hmo with z | z<;>first | omega | (simp_all;done))
      ·have hm1:¬ mI tt=true:=fun c=>hmo (.inl c)
       have hm2:¬ (x.length:Int)<=sI tt:=fun c=>hmo (.inr c)
       have ho:o5K tt x=false:=by
        unfold o5K
        cases hmi:mI tt with
        | true=>exact absurd (.inl hmi) hmo
        | false=>rw [decide_eq_false (fun c=>hmo (.inr c)),Bool.or_false,Bool.and_false]
       obtain ⟨e1,e2⟩:=bR_ (x:=x) hk hs' ho
       rw [e1,e2]
       repeat'(intro t ht;first|(cases t<;>first|(cases ht;done)|(try simp only[zg_]at ht;try(exfalso;first|contradiction|omega)))|((first|refine zb_ ht ?_|refine ht ?_ ?_|refine ht.1 ?_ ?_|refine ht ?_)<;>clear ht))
       all_goals first
        | exact True.intro
        | exact Nat.le_trans hp (by decide)
        | exact ⟨by decide,by omega,Nat.le_trans hp (by decide)⟩
        | exact ⟨q4.1,q4.2⟩
        | exact ⟨q4.1,q4.2,by omega,by decide⟩
        | (simp only [hll,List.length_cons,List.length_nil];first | omega | (constructor<;>omega))
        | (rw [q1];exact ⟨rfl,rfl⟩)
        | (exfalso;first | omega | (refine hmo ?_;first | (left;assumption) | (right;omega)))
     ·obtain ⟨q1,q2⟩:=c2 hg
      obtain ⟨e1,e2⟩:=bR_ (x:=x) hk hs' (zhQ_ hg).1
      rw [e1,e2]
      repeat'(intro t ht;first|(cases t<;>first|(cases ht;done)|(try simp only[zg_]at ht;try(exfalso;first|contradiction|omega)))|((first|refine zb_ ht ?_|refine ht ?_ ?_|refine ht.1 ?_ ?_|refine ht ?_)<;>clear ht))
      all_goals first
       | exact True.intro
       | exact Nat.le_trans hp (by decide)
       | exact ⟨by decide,by omega,Nat.le_trans hp (by decide)⟩
       | (simp only [hll,List.length_cons,List.length_nil];first | omega | (constructor<;>omega))
       | (rw [q1];exact ⟨rfl,rfl⟩)
       | (exfalso;omega)
 ·cases e
theorem zeO_ {acc:List VIn} {y:List Int} (h:tlE y 8 8 776=0):inE acc y=o5E (snI acc (tT y)) (tT y) (bd y):=by unfold inE;rw [if_neg (not_not_intro h)]
theorem uy_ {acc:List VIn} {y:List Int} (h:¬ tlE y 8 8 776=0):inE acc y=tlE y 8 8 776:=by unfold inE;rw [if_pos h]
theorem yT_ {y:List Int} (h:tlE y 8 8 776=0):tlI y 8 8 776 (tT y)=tT y/\tlI y 8 8 776 (tN y)=tN y/\tlR y 8 8 776=bd y:=by
 unfold tlI tlR bd;rw [if_pos h,if_pos h,if_pos h];exact ⟨rfl,rfl,rfl⟩
theorem B3_ {m:List (Int × Int)} {acc:List VIn} {y:List Int} (jm:mOk m acc) (hT:tlE y 8 8 776=0):o5E (decide (0 < (zy_ m (tlI y 8 8 776 (tT y))).getD 0)) (tlI y 8 8 776 (tT y)) (tlR y 8 8 776)=inE acc y/\o5V (decide (0 < (zy_ m (tlI y 8 8 776 (tT y))).getD 0)) (tlI y 8 8 776 (tT y)) (tlR y 8 8 776)=vI acc y:=by
 obtain ⟨t1,t2,t3⟩:=yT_ hT
 rw [t1,t3,zfI_ jm,zeO_ hT];exact ⟨rfl,rfl⟩
theorem vI_t {acc:List VIn} {y:List Int}:(vI acc y).1=tT y:=by
 unfold vI o5V;split<;>rfl
def hJ_:IR:=
(sq (kr [0] [oD 2 (.mov (.c (.imm Y3 []))),
oD 3 (.mov (cI 0))])
(sq (.reg [oD 8 (.mkmap (.int .i64) (.int .i64)),
oM 4 8])
(sq (.block 0
(.loop
(sq (sq (kr [0,4] [oM 9 0,
oE 10 9,
oB 11 .gtr 10 (cI 0)])
(.cond 11
.skip
(.exit 0)))
(.block 1
(sq (kr [0,4] [oC 13 125 [],
oM 14 0,
oC 15 136 [13,14],
oM 12 15,
oX 16 12 0,
oX 17 12 1,
oX 18 12 2,
oD 5 (.box [.int .i64 0,.imm (.int .u8) []]),
oS 2 5 16,
oM 6 17,
oM 7 18])
(sq (sq (kr [0,4,5,6,7] [oM 19 7,
oB 20 .eql 19 (cI 0)])
(.cond 20
(kr [0,4,5,6] [oK 22 2 5,
oM 23 4,
oC 24 137 [22,23],
oM 21 24,
oX 25 21 0,
oX 26 21 1,
oM 7 26])
.skip))
(sq (sq (kr [0,4,5,6,7] [oM 27 7,
oB 28 .neq 27 (cI 0)])
(.cond 28
(sq (.reg [oM 29 7,
oD 2 (.mov (.c (.imm Y3 []))),
oM 3 29])
.ret)
.skip))
(sq (kr [0,4,5,6] [oM 30 4,
oA 31 0 5,
oL 32 31,
oD 33 (.mget (.int .i64) (.int .i64) (0:Int) false 30 32),
oB 34 .add 33 (cI 1),
oN (.mput (.int .i64) (.int .i64) 30 32 34)])
(.reg [oM 35 0,
oM 36 6,
oD 37 (.slice 1 35 (some 36) none none),
oM 0 37])))))))))
(sq (kr [] [oD 2 (.mov (.c (.imm Y3 []))),
oD 3 (.mov (cI 776))])
.ret))))
def GE_:List RD:=[.tmp 2 true (some Y3),.tmp 3 true none]
theorem ha_:zm_ Tryz.prog Tryz.f135 hJ_ GE_=true:=by kernel_rfl
def KS_:List AV->List Obj->Option (Prop × AV)
 | [.imm (.int .u8) b],[]=>some ((b.length<=100000000/\65528 < b.length,.tup [.imm Y3 (idL b),.int .i64 (idE b)]))
 | _,_=>none
theorem xg_:zd_ Tryz.prog 135 (RoF KS_).sum:=by
 refine zi_ Tryz.func135 ha_ (za_ (s:=RoF qw_) Qw_ (za_ (s:=RoF KZ_) jD_ (za_ (s:=RoF Kk_) jX_ (zc_ _)))) fun args objs p v e=>?_
 unfold KS_ at e
 split at e
 ·rename_i b
  cases e
  refine ⟨rfl,fun hw ho hp=>?_⟩
  change List Int at b
  have hb:∀ z ∈ (b:List Int),(0:Int)<=z/\z<=255:=fun z hz=>(hw (.imm (.int .u8) b) (by simp)).1 z hz
  clear hw ho
  obtain ⟨hp,hlong⟩:=hp
  repeat'(intro t ht;first|(cases t<;>first|(cases ht;done)|(try simp only[zg_]at ht;try(exfalso;first|contradiction|omega)))|((first|refine zb_ ht ?_|refine ht ?_ ?_|refine ht.1 ?_ ?_|refine ht ?_)<;>clear ht))
  all_goals first
   | exact True.intro
   | (intro r h1 h2;clear h1;refine h2 ⟨[0,4],List VIn × List Int × List (Int × Int),(fun a=>a.1.length<=b.length/\a.2.1.length<=b.length/\a.1.length+a.2.1.length<=b.length/\mOk a.2.2 a.1/\(∀ z ∈ a.2.1,(0:Int)<=z/\z<=255)/\inG [] b=inG a.1 a.2.1),fun a=>[.imm (.int .u8) a.2.1,.mapv 0],fun a=>[.map true (.int .i64) (.int .i64) a.2.2],fun a=>a.2.1.length,⟨([],b,[]),⟨by simp,Nat.le_refl _,by simp,uw_,hb,rfl⟩,rfl,rfl⟩,?_⟩;clear h2)
  rintro ⟨acc,y,m⟩ ⟨ja,jy,jl,jm,jb,je⟩
  dsimp only at ja jy jl jm jb je
  repeat'(intro t ht;first|(cases t<;>first|(cases ht;done)|(try simp only[zg_]at ht;try(exfalso;first|contradiction|omega)))|((first|refine zb_ ht ?_|refine ht ?_ ?_|refine ht.1 ?_ ?_|refine ht ?_)<;>clear ht))
  all_goals first
   | exact True.intro
   | ((try simp only [zk_,zl_,zj_] at*);omega)
   | exact ⟨rfl,by decide,by dsimp only;omega⟩
   | (have h0:y.length=0:=by omega
      rw [Yw_ h0] at je
      obtain ⟨d1,d2⟩:=(vy_ je).1 (by omega)
      rw [d1,d2];exact ⟨rfl,rfl⟩)
   | (have hT:¬ tlE y 8 8 776=0:=by assumption
      have hi:=uy_ (acc:=acc) hT
      have hg:=jK_ (acc:=acc) (y:=y) (by omega) (by rw [hi];exact hT)
      rw [hi,<- je] at hg
      obtain ⟨d1,d2⟩:=xT_ (b:=b) (e:=tlE y 8 8 776) (by rw [hg]) hT
      rw [d1,d2];exact ⟨rfl,rfl⟩)
   | (have hT:tlE y 8 8 776=0:=by assumption
      obtain ⟨t1,t2,t3⟩:=yT_ hT
      obtain ⟨i1,i2⟩:=B3_ jm hT
      first
       | (show (tlR y 8 8 776).length<=100000;rw [t3];have:=gN_ jb;omega)
       | (have hr:=jm.r (tlI y 8 8 776 (tT y))
          exact (show IntKind.i64.min<=(zy_ m (tlI y 8 8 776 (tT y))).getD 0+1/\(zy_ m (tlI y 8 8 776 (tT y))).getD 0+1<=IntKind.i64.max from by simp only [zj_];omega))
       | (have h0:¬ o5E (decide (0 < (zy_ m (tlI y 8 8 776 (tT y))).getD 0)) (tlI y 8 8 776 (tT y)) (tlR y 8 8 776)=0:=ht
          have hg:=jK_ (acc:=acc) (y:=y) (by omega) (by rw [<- i1];exact h0)
          rw [<- i1,<- je] at hg
          obtain ⟨d1,d2⟩:=xT_ (b:=b) (e:=o5E (decide (0 < (zy_ m (tlI y 8 8 776 (tT y))).getD 0)) (tlI y 8 8 776 (tT y)) (tlR y 8 8 776)) (by rw [hg]) h0
          rw [d1,d2];exact ⟨rfl,rfl⟩)
       | (have h0:o5E (decide (0 < (zy_ m (tlI y 8 8 776 (tT y))).getD 0)) (tlI y 8 8 776 (tT y)) (tlR y 8 8 776)=0:=by assumption
          obtain ⟨n1,n2,n3⟩:=gm_ (i1.symm.trans h0)
          first
           | (show 0<=tlI y 8 8 776 (tN y)/\tlI y 8 8 776 (tN y)<=(y.length:Int);rw [t2];omega)
           | (have hg:=gn_ (acc:=acc) (y:=y) (by omega) (i1.symm.trans h0) (by omega)
              have hma:=ux_ (i:=vI acc y) jm
              rw [vI_t] at hma
              refine ⟨(acc++[vI acc y],y.drop (tN y).toNat,kk_ m (tT y) ((zy_ m (tT y)).getD 0+1)),⟨?_,?_,?_,hma,fun z hz=>jb z (List.mem_of_mem_drop hz),je.trans hg⟩,?_,?_,?_⟩
              ·dsimp only;rw [List.length_append,List.length_singleton];omega
              ·dsimp only;rw [List.length_drop];omega
              ·dsimp only;rw [List.length_append,List.length_singleton,List.length_drop];omega
              ·dsimp only;rw [List.length_drop];omega
              ·dsimp only;rw [t2];try rfl
              ·dsimp only;rw [t1];try rfl)
           | fail)
       | fail)
 ·cases e
def ui_:IR:=
(sq (kr [0] [oD 2 (.nilrow Y3),
oD 3 (.mov (cI 0))])
(sq (sq (.reg [oM 10 0,
oE 11 10,
oB 12 .gtr 11 (cI 65528)])
(.cond 12
(sq (kr [0] [oM 13 0,
oC 14 135 [13],
oX 15 14 0,
oX 16 14 1,
oM 2 15,
oM 3 16])
.ret)
.skip))
(sq (.reg [oD 4 (.nilrow Y3)])
(sq (kr [0,4] [oD 17 (.mkmap (.int .i64) (.int .i64)),
oM 5 17])
(sq (.block 0
(.loop
(sq (sq (kr [0,4,5] [oM 18 0,
oE 19 18,
oB 20 .gtr 19 (cI 0)])
(.cond 20
.skip
(.exit 0)))
(.block 1
(sq (kr [0,4,5] [oC 22 125 [],
oM 23 0,
oC 24 136 [22,23],
oM 21 24,
oX 25 21 0,
oX 26 21 1,
oX 27 21 2,
oD 6 (.box [.int .i64 0,.imm (.int .u8) []]),
oS 2 6 25,
oM 7 26,
oM 8 27])
(sq (sq (kr [0,4,5,6,7,8] [oM 28 8,
oB 29 .neq 28 (cI 0)])
(.cond 29
(sq (.reg [oM 30 8,
oD 2 (.nilrow Y3),
oM 3 30])
.ret)
.skip))
(sq (kr [0,4,5,6,7] [oK 32 2 6,
oM 33 5,
oC 34 137 [32,33],
oM 31 34,
oX 35 31 0,
oX 36 31 1,
oD 9 (.box [.int .i64 0,.int .u64 0,.int .u64 0,.imm Y2 [],.imm (.int .u8) []]),
oS 5 9 35,
oM 8 36])
(sq (sq (kr [0,4,5,7,8,9] [oM 37 8,
oB 38 .neq 37 (cI 0)])
(.cond 38
(sq (.reg [oM 39 8,
oD 2 (.nilrow Y3),
oM 3 39])
.ret)
.skip))
(sq (kr [0,4,5,7,9] [oM 40 5,
oA 41 0 9,
oL 42 41,
oD 43 (.mget (.int .i64) (.int .i64) (0:Int) false 40 42),
oB 44 .add 43 (cI 1),
oN (.mput (.int .i64) (.int .i64) 40 42 44)])
(sq (kr [0,4,5,7,9] [oM 45 4,
oK 46 5 9,
oD 47 (.sliceAll Y3 1 [(0,5,46)]),
oD 48 (.append Y3 72 45 47),
oM 4 48])
(.reg [oM 49 0,
oM 50 7,
oD 51 (.slice 1 49 (some 50) none none),
oM 0 51])))))))))))
(sq (kr [4] [oM 52 4,
oM 2 52,
oD 3 (.mov (cI 0))])
.ret))))))
def VS_:List RD:=[.tmp 2 true (some Y3),.tmp 3 true none]
theorem V4_:zm_ Tryz.prog Tryz.f100 ui_ VS_=true:=by kernel_rfl
def jq_:List AV->List Obj->Option (Prop × AV)
 | [.imm (.int .u8) b],[]=>some ((b.length<=100000000,.tup [.imm Y3 (idL b),.int .i64 (idE b)]))
 | _,_=>none
theorem YZ_:zd_ Tryz.prog 100 (RoF jq_).sum:=by
 refine zi_ Tryz.func100 V4_ (za_ (s:=RoF KS_) xg_ (za_ (s:=RoF qw_) Qw_ (za_ (s:=RoF KZ_) jD_ (za_ (s:=RoF Kk_) jX_ (zc_ _))))) fun args objs p v e=>?_
 unfold jq_ at e
 split at e
 ·rename_i b
  cases e
  refine ⟨rfl,fun hw ho hp=>?_⟩
  change List Int at b
  have hb:∀ z ∈ (b:List Int),(0:Int)<=z/\z<=255:=fun z hz=>(hw (.imm (.int .u8) b) (by simp)).1 z hz
  clear hw ho
  by_cases hlong:65528 < b.length
  ·repeat'(intro t ht;first|(cases t<;>first|(cases ht;done)|(try simp only[zg_]at ht;try(exfalso;first|contradiction|omega)))|((first|refine zb_ ht ?_|refine ht ?_ ?_|refine ht.1 ?_ ?_|refine ht ?_)<;>clear ht))
   all_goals first
    | exact True.intro
    | exact ⟨hp,hlong⟩
    | exact ⟨rfl,rfl⟩
    | (exfalso;omega)
  ·repeat'(intro t ht;first|(cases t<;>first|(cases ht;done)|(try simp only[zg_]at ht;try(exfalso;first|contradiction|omega)))|((first|refine zb_ ht ?_|refine ht ?_ ?_|refine ht.1 ?_ ?_|refine ht ?_)<;>clear ht))
   all_goals first
    | exact True.intro
    | (exfalso;omega)
    | (intro r h1 h2;clear h1;refine h2 ⟨[0,4,5],List VIn × List Int × List (Int × Int),(fun a=>a.1.length+a.2.1.length<=b.length/\mOk a.2.2 a.1/\(∀ z ∈ a.2.1,(0:Int)<=z/\z<=255)/\inG [] b=inG a.1 a.2.1),fun a=>[.imm (.int .u8) a.2.1,.own 0,.mapv 1],fun a=>[.row false Y3 a.1,.map true (.int .i64) (.int .i64) a.2.2],fun a=>a.2.1.length,⟨([],b,[]),⟨by simp,uw_,hb,rfl⟩,rfl,rfl⟩,?_⟩;clear h2)
   rintro ⟨acc,y,m⟩ ⟨jl,jm,jb,je⟩
   dsimp only at jl jm jb je
   repeat'(intro t ht;first|(cases t<;>first|(cases ht;done)|(try simp only[zg_]at ht;try(exfalso;first|contradiction|omega)))|((first|refine zb_ ht ?_|refine ht ?_ ?_|refine ht.1 ?_ ?_|refine ht ?_)<;>clear ht))
   all_goals first
    | exact True.intro
    | ((try simp only [zk_,zl_,zj_] at*);omega)
    | exact ⟨rfl,by decide,by dsimp only;omega⟩
    | (simp only [List.length_cons,List.length_nil];constructor<;>omega)
    | (have h0:y.length=0:=by omega
       rw [Yw_ h0] at je
       obtain ⟨d1,d2⟩:=(vy_ je).2 (by omega)
       rw [d1,d2];exact ⟨rfl,rfl⟩)
    | (have hT:¬ tlE y 8 8 776=0:=by assumption
       have hi:=uy_ (acc:=acc) hT
       have hg:=jK_ (acc:=acc) (y:=y) (by omega) (by rw [hi];exact hT)
       rw [hi,<- je] at hg
       obtain ⟨d1,d2⟩:=xT_ (b:=b) (e:=tlE y 8 8 776) (by rw [hg]) hT
       rw [d1,d2];exact ⟨rfl,rfl⟩)
    | (have hT:tlE y 8 8 776=0:=by assumption
       obtain ⟨t1,t2,t3⟩:=yT_ hT
       obtain ⟨i1,i2⟩:=B3_ jm hT
       have i3:(o5V (decide (0 < (zy_ m (tlI y 8 8 776 (tT y))).getD 0)) (tlI y 8 8 776 (tT y)) (tlR y 8 8 776)).1=tT y:=by rw [i2];exact vI_t
       first
        | (show (tlR y 8 8 776).length<=100000;rw [t3];have:=gN_ jb;omega)
        | (have hr:=jm.r (o5V (decide (0 < (zy_ m (tlI y 8 8 776 (tT y))).getD 0)) (tlI y 8 8 776 (tT y)) (tlR y 8 8 776)).1
           exact (show IntKind.i64.min<=(zy_ m (o5V (decide (0 < (zy_ m (tlI y 8 8 776 (tT y))).getD 0)) (tlI y 8 8 776 (tT y)) (tlR y 8 8 776)).1).getD 0+1/\(zy_ m (o5V (decide (0 < (zy_ m (tlI y 8 8 776 (tT y))).getD 0)) (tlI y 8 8 776 (tT y)) (tlR y 8 8 776)).1).getD 0+1<=IntKind.i64.max from by simp only [zj_];omega))
        | (have h0:¬ o5E (decide (0 < (zy_ m (tlI y 8 8 776 (tT y))).getD 0)) (tlI y 8 8 776 (tT y)) (tlR y 8 8 776)=0:=ht
           have hg:=jK_ (acc:=acc) (y:=y) (by omega) (by rw [<- i1];exact h0)
           rw [<- i1,<- je] at hg
           obtain ⟨d1,d2⟩:=xT_ (b:=b) (e:=o5E (decide (0 < (zy_ m (tlI y 8 8 776 (tT y))).getD 0)) (tlI y 8 8 776 (tT y)) (tlR y 8 8 776)) (by rw [hg]) h0
           rw [d1,d2];exact ⟨rfl,rfl⟩)
        | (have h0:o5E (decide (0 < (zy_ m (tlI y 8 8 776 (tT y))).getD 0)) (tlI y 8 8 776 (tT y)) (tlR y 8 8 776)=0:=by assumption
           obtain ⟨n1,n2,n3⟩:=gm_ (i1.symm.trans h0)
           first
            | (show 0<=tlI y 8 8 776 (tN y)/\tlI y 8 8 776 (tN y)<=(y.length:Int);rw [t2];omega)
            | (have hg:=gn_ (acc:=acc) (y:=y) (by omega) (i1.symm.trans h0) (by omega)
               have hma:=ux_ (i:=vI acc y) jm
               refine ⟨(acc++[vI acc y],y.drop (tN y).toNat,kk_ m (vI acc y).1 ((zy_ m (vI acc y).1).getD 0+1)),⟨?_,hma,fun z hz=>jb z (List.mem_of_mem_drop hz),je.trans hg⟩,?_,?_,?_⟩
               ·dsimp only;rw [List.length_append,List.length_singleton,List.length_drop];omega
               ·dsimp only;rw [List.length_drop];omega
               ·dsimp only;rw [t2];try rfl
               ·dsimp only;rw [<- i2];try rfl)
            | fail)
        | fail)
 ·cases e
def itL5 (b:List Int) (p e:Int):List VIn:=if e=0 then idL (b.drop p.toNat) else []
def hr_ (b:List Int) (p e:Int):Int:=if e=0 then idE (b.drop p.toNat) else e
def hL_:IR:=
(sq (kr [0] [oD 2 (.mov (.c (.imm Y3 [])))])
(sq (.reg [oM 6 0,
oC 7 99 [6],
oM 3 7])
(sq (sq (.reg [oM 8 0,
oC 9 43 [8],
oB 10 .neq 9 (cI 0)])
(.cond 10
(sq (kr [] [oD 2 (.mov (.c (.imm Y3 [])))])
.ret)
.skip))
(sq (kr [0,3] [oM 12 3,
oC 13 100 [12],
oM 11 13,
oX 14 11 0,
oX 15 11 1,
oM 4 14,
oM 5 15])
(sq (kr [0,4,5] [oM 16 0,
oM 17 5,
oC 18 44 [16,17]])
(sq (.reg [oM 19 4,
oM 2 19])
.ret))))))
def GG_:List RD:=[.tmp 2 true (some Y3)]
theorem hc_:zm_ Tryz.prog Tryz.f46 hL_ GG_=true:=by kernel_rfl
def w5_:List AV->List Obj->Option (Prop × AV × List Obj)
 | [.ptr 0 0],[.box [.imm (.int .u8) b,.int .i64 p,.int .i64 sh,.int .i64 od,.int .i64 e,.bool true]]=>some ((0<=p/\p<=b.length/\b.length<=100000000/\sh ≠ 0,.imm Y3 (itL5 b p e),[.box [.imm (.int .u8) b,.int .i64 ((if e=0 then (b.length:Int) else p)),.int .i64 sh,.int .i64 od,.int .i64 (hr_ b p e),.bool true]]))
 | _,_=>none
theorem u2_:zd_ Tryz.prog 46 (RwF w5_).sum:=by
 refine qa_ Tryz.func46 hc_ (za_ (s:=RwF Zl_) ZL_ (za_ (s:=RoF zp_) zq_ (za_ (s:=RoF jq_) YZ_ (za_ (s:=RwF zs_) zt_ (zc_ _))))) fun args objs p v o e=>?_
 unfold w5_ at e
 split at e
 ·rename_i b p sh od e
  cases e
  refine ⟨rfl,fun hw ho hp=>?_⟩
  change List Int at b
  clear hw ho
  obtain ⟨h1,h2,h3,h4⟩:=hp
  have hl:(b.drop p.toNat).length<=100000000:=by rw [List.length_drop];omega
  by_cases he:e=0
  ·subst he
   have f0:∀ x,zv_ 0 x=x:=fun x=>if_pos rfl
   repeat'(intro t ht;first|(cases t<;>first|(cases ht;done)|(try simp only[zg_]at ht;try(exfalso;first|contradiction|omega)))|((first|refine zb_ ht ?_|refine ht ?_ ?_|refine ht.1 ?_ ?_|refine ht ?_)<;>clear ht))
   all_goals first
    | exact True.intro
    | exact ⟨h1,h2,by omega,h4⟩
    | exact hl
    | exact ⟨rfl,rfl⟩
    | (exfalso;omega)
  ·repeat'(intro t ht;first|(cases t<;>first|(cases ht;done)|(try simp only[zg_]at ht;try(exfalso;first|contradiction|omega)))|((first|refine zb_ ht ?_|refine ht ?_ ?_|refine ht.1 ?_ ?_|refine ht ?_)<;>clear ht))
   all_goals first
    | exact True.intro
    | exact ⟨h1,h2,by omega,h4⟩
    | (unfold itL5 hr_;rw [if_neg he,if_neg he,if_neg he];exact ⟨rfl,rfl⟩)
    | (exfalso;omega)
 ·cases e
def insO (x:List VIn):Option (List Int):=if rgI x=true then some (boI x) else none
theorem zhd_ (room:Int) (x:List VIn):WrOk room (fun l e=>(ipB l room e x,ipE l room e x)) (insO x):=by
 have f0:∀ e:Int,zv_ e 0=e:=by intro e;unfold zv_;split<;>omega
 unfold insO ipB ipE
 cases hr:rgI x with
 | false=>
   have e1:ieE x=10001:=by unfold ieE;rw [hr];rfl
   rw [if_neg (by decide),e1]
   refine ⟨fun y h=>(by cases h),fun y h=>(by cases h),fun _ l=>?_,fun l e h=>?_⟩
   ·show QS_ (ieL x) l room (zv_ 0 10001) ≠ 0;exact KH_ (by decide)
   ·show QS_ (ieL x) l room (zv_ e 10001) ≠ 0;exact KH_ (QF_ h)
 | true=>
   have e1:ieE x=0:=by unfold ieE;rw [hr];rfl
   have e2:ieL x=boI x:=by unfold ieL;rw [hr];rfl
   have h:=uK_ room (boI x)
   rw [if_pos rfl,e1,e2]
   simp only [f0];exact h
def fnF (v:Option (List Int)):List Int × Int:=match v with | some y=>if (65527:Int) < y.length then ([],10001) else (y,0) | none=>([],10001)
theorem zkV_ {f:List Int->Int->List Int × Int} {v:Option (List Int)} (h:WrOk 65527 f v):((f [] 0).2=0->fnF v=((f [] 0).1,0))/\(¬ (f [] 0).2=0->fnF v=([],10001)):=by
 obtain ⟨f1,f2⟩:=h.fin (by decide)
 cases v with
 | none=>exact ⟨fun k=>absurd k (f2 fun y e=>by cases e),fun _=>rfl⟩
 | some y=>
   unfold fnF;dsimp only
   by_cases hl:(65527:Int) < y.length
   ·exact ⟨fun k=>absurd k (f2 fun y' e=>by cases e;exact hl),fun _=>if_pos hl⟩
   ·rw [f1 y rfl (by omega),if_neg hl];exact ⟨fun _=>rfl,fun k=>absurd rfl k⟩
def w14:List Int:=[8,8,1,1,2,2,2,4,4,4,2,-2]
def w11:List Int:=[8,2,1,1,4,4,2,2,8,8]
def wF (t:Int):List Int:=if t=14 then w14 else if t=11 then w11 else []
def kF (t:Int):Bool:=decide (t=14) || decide (t=11)
def qF (t:Int) (l:List Int):Int:=if t=11 then (if 3 < l.getD 2 0 then 269 else 0) else if 4 < l.getD 3 0 then 1287 else if 31 < l.getD 10 0 then 1288 else if l.getD 2 0=255/\¬ (l.getD 3 0=3\/l.getD 3 0=4) then 266 else 0
theorem kF_t {t:Int}:kF t=true ↔ t=14\/t=11:=by unfold kF;simp
theorem zch_ {t:Int} (h1:¬ t=14) (h2:¬ t=11):kF t=false/\wF t=[]:=by unfold kF wF;rw [if_neg h1,if_neg h2];simp [h1,h2]
def vF (t:Int) (n:List Int) (x:List OV) (i:List VIn):Option (List Int):=if t=14 then wcat (wcat (rowO w14 n) (matO x)) (insO i) else wcat (rowO w11 n) (matO x)
abbrev mI3 (m:VMs):=m.2.2.2.2.2.2.2.1
def zbw_ (m:VMs):VMs:=(m.1,m.2.1,[],m.2.2.2.1,m.2.2.2.2.1,[],m.2.2.2.2.2.2.1,(if m.1=14 then [] else mI3 m),m.2.2.2.2.2.2.2.2)
def wrF (m:VMs):List Int × Int:=if kF (mT m)=true/\qF (mT m) (mN m)=0/\JM_ (zbw_ m)=true then fnF (vF (mT m) (mN m) (mX m) (mI3 m)) else ([],10001)
theorem zhf_ {m:VMs} (h:¬ (kF (mT m)=true/\qF (mT m) (mN m)=0/\JM_ (zbw_ m)=true)):wrF m=([],10001):=if_neg h
def fL1 (w n:List Int) (x:List OV):List Int:=mpB x (qK_ w n [] 65527 0) 65527 (qJ_ w n [] 65527 0)
def fE1 (w n:List Int) (x:List OV):Int:=mpE x (qK_ w n [] 65527 0) 65527 (qJ_ w n [] 65527 0)
def fL2 (n:List Int) (x:List OV) (i:List VIn):List Int:=ipB (fL1 w14 n x) 65527 (fE1 w14 n x) i
def fE2 (n:List Int) (x:List OV) (i:List VIn):Int:=ipE (fL1 w14 n x) 65527 (fE1 w14 n x) i
theorem zmZ_ (n:List Int) (x:List OV) (i:List VIn):(fE2 n x i=0->fnF (vF 14 n x i)=(fL2 n x i,0))/\(¬ fE2 n x i=0->fnF (vF 14 n x i)=([],10001))/\(¬ qJ_ w14 n [] 65527 0=0->¬ fE2 n x i=0):=by
 have h:=zkV_ (((zdy_ 65527 w14 n).seq (yS_ 65527 x)).seq (zhd_ 65527 i))
 exact ⟨h.1,h.2,fun e=>(zhd_ 65527 i).ne _ _ ((yS_ 65527 x).ne _ _ e)⟩
theorem zm0_ (n:List Int) (x:List OV) (i:List VIn):(fE1 w11 n x=0->fnF (vF 11 n x i)=(fL1 w11 n x,0))/\(¬ fE1 w11 n x=0->fnF (vF 11 n x i)=([],10001))/\(¬ qJ_ w11 n [] 65527 0=0->¬ fE1 w11 n x=0):=by
 have h:=zkV_ ((zdy_ 65527 w11 n).seq (yS_ 65527 x))
 exact ⟨h.1,h.2,fun e=>(yS_ 65527 x).ne _ _ e⟩
theorem zhB_ {w n l:List Int} {room e:Int} (h:qJ_ w n l room e=0):qq_ w n=true:=by
 cases hk:qq_ w n with
 | true=>rfl
 | false=>unfold qJ_ at h;rw [hk,if_neg (by decide)] at h;unfold zv_ at h;split at h<;>omega
theorem cntF:zH_ w14=11/\zH_ w11=10/\zD_ w14=40/\zD_ w11=40:=by decide
theorem lF {t:Int} {l:List Int} (hk:kF t=true) (h:(l.length:Int)=zH_ (wF t)):(t=14/\l.length=11)\/(t=11/\l.length=10):=by
 obtain ⟨c1,c2,_⟩:=cntF
 rcases kF_t.1 hk with rfl | rfl
 ·rw [show wF 14=w14 from rfl,c1] at h;exact .inl ⟨rfl,by omega⟩
 ·rw [show wF 11=w11 from rfl,c2] at h;exact .inr ⟨rfl,by omega⟩
theorem qF_7 {l:List Int} (h:4 < l.getD 3 0):qF 14 l=1287:=by unfold qF;rw [if_neg (by decide),if_pos h]
theorem qF_8 {l:List Int} (h1:¬ 4 < l.getD 3 0) (h:31 < l.getD 10 0):qF 14 l=1288:=by unfold qF;rw [if_neg (by decide),if_neg h1,if_pos h]
theorem qF_6 {l:List Int} (h1:¬ 4 < l.getD 3 0) (h2:¬ 31 < l.getD 10 0) (h:l.getD 2 0=255) (h3:¬ l.getD 3 0=3) (h4:¬ l.getD 3 0=4):qF 14 l=266:=by unfold qF;rw [if_neg (by decide),if_neg h1,if_neg h2,if_pos ⟨h,fun c=>c.elim h3 h4⟩]
theorem qF_0 {l:List Int} (h1:¬ 4 < l.getD 3 0) (h2:¬ 31 < l.getD 10 0) (h:¬ l.getD 2 0=255\/l.getD 3 0=3\/l.getD 3 0=4):qF 14 l=0:=by
 unfold qF;rw [if_neg (by decide),if_neg h1,if_neg h2,if_neg]
 rintro ⟨a,b⟩
 rcases h with h | h
 ·exact h a
 ·exact b h
theorem or34 {a b:Int} (h:(decide (a=3) || decide (b=4))=true):a=3\/b=4:=by simpa using h
theorem zfB_ {a b:Int} (h:(decide (a=3) || decide (b=4))=false):¬ a=3/\¬ b=4:=by simpa using h
def BX_:IR:=
(sq (kr [0] [oD 2 (.mov (.c (.imm (.int .i64) []))),
oD 3 (.mov cF)])
(sq (sq (.reg [oM 4 0])
(.block 0
(sq (.reg [oB 6 .eql 4 (cI 14),
oM 5 6])
(.cond 5
(sq (.reg [oD 7 (.sliceAll (.int .i64) 12 [(0,1,(cI 8)),(1,1,(cI 8)),(2,1,(cI 1)),(3,1,(cI 1)),(4,1,(cI 2)),(5,1,(cI 2)),(6,1,(cI 2)),(7,1,(cI 4)),(8,1,(cI 4)),(9,1,(cI 4)),(10,1,(cI 2)),(11,1,(cI (-2)))]),
oM 2 7,
oD 3 (.mov cT)])
.ret)
(sq (.reg [oB 9 .eql 4 (cI 11),
oM 8 9])
(.cond 8
(sq (kr [] [oD 10 (.sliceAll (.int .i64) 10 [(0,1,(cI 8)),(1,1,(cI 2)),(2,1,(cI 1)),(3,1,(cI 1)),(4,1,(cI 4)),(5,1,(cI 4)),(6,1,(cI 2)),(7,1,(cI 2)),(8,1,(cI 8)),(9,1,(cI 8))]),
oM 2 10,
oD 3 (.mov cT)])
.ret)
.skip))))))
(sq (kr [] [oD 2 (.mov (.c (.imm (.int .i64) []))),
oD 3 (.mov cF)])
.ret)))
def bF_:List RD:=[.tmp 2 true (some (.int .i64)),.tmp 3 true none]
theorem Bg_:zm_ Tryz.prog Tryz.f26 BX_ bF_=true:=by kernel_rfl
def QL_:List AV->List Obj->Option (Prop × AV)
 | [.int .i64 tt],[]=>some ((True,.tup [.imm (.int .i64) (wF tt),.bool (kF tt)]))
 | _,_=>none
theorem kS_:zd_ Tryz.prog 26 (RoF QL_).sum:=by
 refine zi_ Tryz.func26 Bg_ (zc_ _) fun args objs p v e=>?_
 unfold QL_ at e
 split at e
 ·rename_i tt
  cases e
  refine ⟨rfl,fun hw ho hp=>?_⟩
  clear hw ho
  repeat'(intro t ht;first|(cases t<;>first|(cases ht;done)|(try simp only[zg_]at ht;try(exfalso;first|contradiction|omega)))|((first|refine zb_ ht ?_|refine ht ?_ ?_|refine ht.1 ?_ ?_|refine ht ?_)<;>clear ht))
  all_goals first
   | exact True.intro
   | (have h:=zch_ (t:=tt) (by assumption) (by assumption)
      rw [h.1,h.2];exact ⟨rfl,rfl⟩)
   | (subst_vars;exact ⟨rfl,rfl⟩)
 ·cases e
def zcO_:IR:=
(sq (kr [0] [oD 2 (.mov cF)])
(sq (kr [0] [oM 6 0,
oC 7 26 [6],
oM 5 7,
oX 8 5 0,
oX 9 5 1,
oM 3 8,
oM 4 9])
(sq (kr [4] [oM 10 4,
oM 2 10])
.ret)))
def zbo_:List RD:=[.tmp 2 true none]
theorem zb0_:zm_ Tryz.prog Tryz.f11 zcO_ zbo_=true:=by kernel_rfl
def yM_:List AV->List Obj->Option (Prop × AV)
 | [.int .i64 tt],[]=>some ((True,.bool (kF tt)))
 | _,_=>none
theorem H8_:zd_ Tryz.prog 11 (RoF yM_).sum:=by
 refine zi_ Tryz.func11 zb0_ (za_ (s:=RoF QL_) kS_ (zc_ _)) fun args objs p v e=>?_
 unfold yM_ at e
 split at e
 ·rename_i tt
  cases e
  refine ⟨rfl,fun hw ho hp=>?_⟩
  repeat'(intro t ht;first|(cases t<;>first|(cases ht;done)|(try simp only[zg_]at ht;try(exfalso;first|contradiction|omega)))|((first|refine zb_ ht ?_|refine ht ?_ ?_|refine ht.1 ?_ ?_|refine ht ?_)<;>clear ht))
  all_goals first
   | exact True.intro
   | exact ⟨rfl,rfl⟩
 ·cases e
def zeE_:IR:=
(sq (kr [0] [oD 2 (.mov cF)])
(sq (kr [0] [oM 3 0,
oB 4 .eql 3 (cI 14),
oM 5 4,
oF 5 6 (.mov 0),
oF 5 7 (.bin .eql 6 (cI 11)),
oP 8 5 cT 7,
oM 2 8])
.ret))
def zdT_:List RD:=[.tmp 2 true none]
theorem zed_:zm_ Tryz.prog Tryz.f12 zeE_ zdT_=true:=by kernel_rfl
def vS_:List AV->List Obj->Option (Prop × AV)
 | [.int .i64 tt],[]=>some ((True,.bool (kF tt)))
 | _,_=>none
theorem zaE_:zd_ Tryz.prog 12 (RoF vS_).sum:=by
 refine zi_ Tryz.func12 zed_ (zc_ _) fun args objs p v e=>?_
 unfold vS_ at e
 split at e
 ·rename_i tt
  cases e
  refine ⟨rfl,fun hw ho hp=>?_⟩
  clear hw ho
  repeat'(intro t ht;first|(cases t<;>first|(cases ht;done)|(try simp only[zg_]at ht;try(exfalso;first|contradiction|omega)))|((first|refine zb_ ht ?_|refine ht ?_ ?_|refine ht.1 ?_ ?_|refine ht ?_)<;>clear ht))
  all_goals first
   | exact True.intro
   | exact ⟨rfl,rfl⟩
   | (subst_vars;exact ⟨rfl,rfl⟩)
   | (unfold kF;refine ⟨congrArg AV.bool ?_,rfl⟩;simp_all;done)
 ·cases e
def zeD_:IR:=
(sq (kr [0] [oD 2 (.mov (.c (.imm (.int .i64) [])))])
(sq (sq (.reg [oM 3 0,
oB 4 .eql 3 (cI 14)])
(.cond 4
(sq (.reg [oD 5 (.sliceAll (.int .i64) 12 [(0,1,(cI 8)),(1,1,(cI 8)),(2,1,(cI 1)),(3,1,(cI 1)),(4,1,(cI 2)),(5,1,(cI 2)),(6,1,(cI 2)),(7,1,(cI 4)),(8,1,(cI 4)),(9,1,(cI 4)),(10,1,(cI 2)),(11,1,(cI (-2)))]),
oM 2 5])
.ret)
.skip))
(sq (.reg [oD 6 (.sliceAll (.int .i64) 10 [(0,1,(cI 8)),(1,1,(cI 2)),(2,1,(cI 1)),(3,1,(cI 1)),(4,1,(cI 4)),(5,1,(cI 4)),(6,1,(cI 2)),(7,1,(cI 2)),(8,1,(cI 8)),(9,1,(cI 8))]),
oM 2 6])
.ret)))
def zdS_:List RD:=[.tmp 2 true (some (.int .i64))]
theorem zec_:zm_ Tryz.prog Tryz.f36 zeD_ zdS_=true:=by kernel_rfl
def vR_:List AV->List Obj->Option (Prop × AV)
 | [.int .i64 tt],[]=>some ((kF tt=true,.imm (.int .i64) (wF tt)))
 | _,_=>none
theorem zaD_:zd_ Tryz.prog 36 (RoF vR_).sum:=by
 refine zi_ Tryz.func36 zec_ (zc_ _) fun args objs p v e=>?_
 unfold vR_ at e
 split at e
 ·rename_i tt
  cases e
  refine ⟨rfl,fun hw ho hp=>?_⟩
  clear hw ho
  have hk:=kF_t.1 hp
  repeat'(intro t ht;first|(cases t<;>first|(cases ht;done)|(try simp only[zg_]at ht;try(exfalso;first|contradiction|omega)))|((first|refine zb_ ht ?_|refine ht ?_ ?_|refine ht.1 ?_ ?_|refine ht ?_)<;>clear ht))
  all_goals first
   | exact True.intro
   | (subst_vars;exact ⟨rfl,rfl⟩)
   | (have h:tt=11:=by omega
      subst h;exact ⟨rfl,rfl⟩)
 ·cases e
def uj_:IR:=
(sq (kr [0] [oD 1 (.mov cF)])
(sq (kr [0] [oL 2 0,
oD 3 (.indexSl 1 2 (cI 3)),
oL 4 3,
oB 5 .eql 4 (.c (.int .u64 3)),
oM 6 5,
oF 6 7 (.load none 0),
oF 6 8 (.indexSl 1 7 (cI 3)),
oF 6 9 (.load none 8),
oF 6 10 (.bin .eql 9 (.c (.int .u64 4))),
oP 11 6 cT 10,
oM 1 11])
.ret))
def VT_:List RD:=[.tmp 1 true none]
theorem V5_:zm_ Tryz.prog Tryz.f68 uj_ VT_=true:=by kernel_rfl
def jr_:List AV->List Obj->Option (Prop × AV)
 | [.ptr 0 0],[.box [.imm (.int .u64) l]]=>some ((4<=l.length,.bool (decide (l.getD 3 0=3) || decide (l.getD 3 0=4))))
 | _,_=>none
theorem Y0_:zd_ Tryz.prog 68 (RoF jr_).sum:=by
 refine zi_ Tryz.func68 V5_ (zc_ _) fun args objs p v e=>?_
 unfold jr_ at e
 split at e
 ·rename_i l
  cases e
  refine ⟨rfl,fun hw ho hp=>?_⟩
  change List Int at l
  clear hw ho
  repeat'(intro t ht;first|(cases t<;>first|(cases ht;done)|(try simp only[zg_]at ht;try(exfalso;first|contradiction|omega)))|((first|refine zb_ ht ?_|refine ht ?_ ?_|refine ht.1 ?_ ?_|refine ht ?_)<;>clear ht))
  all_goals first
   | exact True.intro
   | omega
   | (constructor<;>omega)
   | exact ⟨rfl,rfl⟩
   | (refine ⟨congrArg AV.bool ?_,rfl⟩;rw [show decide (l.getD 3 0=3)=false from decide_eq_false (by assumption),Bool.false_or];rfl)
   | (refine ⟨congrArg AV.bool ?_,rfl⟩;rw [show decide (l.getD 3 0=3)=true from decide_eq_true (by assumption),Bool.true_or];done)
 ·cases e
def hN_:IR:=
(sq (kr [0,1] [oD 3 (.boxv 1),
oD 4 (.mov (cI 0))])
(sq (.reg [oD 6 (.mkfn 68 [] [3]),
oM 5 6])
(sq (.block 0
(sq (kr [0,3,5] [oM 8 0,
oB 9 .eql 8 (cI 11),
oM 10 9,
oT 10 11 (.load none 3),
oT 10 12 (.indexSl 1 11 (cI 2)),
oT 10 13 (.load none 12),
oT 10 14 (.bin .gtr 13 (.c (.int .u64 3))),
oP 15 10 14 cF,
oM 7 15])
(.cond 7
(sq (kr [] [oD 4 (.mov (cI 269))])
.ret)
(sq (kr [0,3,5] [oM 17 0,
oB 18 .eql 17 (cI 11),
oM 16 18])
(.cond 16
.skip
(sq (kr [3,5] [oL 20 3,
oD 21 (.indexSl 1 20 (cI 3)),
oL 22 21,
oB 23 .gtr 22 (.c (.int .u64 4)),
oM 19 23])
(.cond 19
(sq (.reg [oD 4 (.mov (cI 1287))])
.ret)
(sq (kr [3,5] [oL 25 3,
oD 26 (.indexSl 1 25 (cI 10)),
oL 27 26,
oB 28 .gtr 27 (.c (.int .u64 31)),
oM 24 28])
(.cond 24
(sq (.reg [oD 4 (.mov (cI 1288))])
.ret)
(sq (kr [3,5] [oL 30 3,
oD 31 (.indexSl 1 30 (cI 2)),
oL 32 31,
oB 33 .eql 32 (.c (.int .u64 255)),
oM 34 33,
oT 34 35 (.mov 5),
oT 34 36 (.call false 35 []),
oT 34 37 (.un .not 36),
oP 38 34 37 cF,
oM 29 38])
(.cond 29
(sq (kr [] [oD 4 (.mov (cI 266))])
.ret)
.skip)))))))))))
(sq (kr [] [oD 4 (.mov (cI 0))])
.ret))))
def GI_:List RD:=[.tmp 4 true none]
theorem he_:zm_ Tryz.prog Tryz.f30 hN_ GI_=true:=by kernel_rfl
def kd_:List AV->List Obj->Option (Prop × AV)
 | [.int .i64 tt,.imm (.int .u64) l],[]=>some ((kF tt=true/\(l.length:Int)=zH_ (wF tt),.int .i64 (qF tt l)))
 | _,_=>none
theorem K5_:zd_ Tryz.prog 30 (RoF kd_).sum:=by
 refine zi_ Tryz.func30 he_ (za_ (s:=RoF jr_) Y0_ (zc_ _)) fun args objs p v e=>?_
 unfold kd_ at e
 split at e
 ·rename_i tt l
  cases e
  refine ⟨rfl,fun hw ho hp=>?_⟩
  change List Int at l
  have hl:=lF hp.1 hp.2
  clear hw ho hp
  rcases hl with ⟨rfl,hl⟩ | ⟨rfl,hl⟩
  ·repeat'(intro t ht;first|(cases t<;>first|(cases ht;done)|(try simp only[zg_]at ht;try(exfalso;first|contradiction|omega)))|((first|refine zb_ ht ?_|refine ht ?_ ?_|refine ht.1 ?_ ?_|refine ht ?_)<;>clear ht))
   all_goals first
    | exact True.intro
    | omega
    | (constructor<;>omega)
    | (rw [qF_7 (by assumption)];exact ⟨rfl,rfl⟩)
    | (rw [qF_8 (by assumption) (by assumption)];exact ⟨rfl,rfl⟩)
    | (rw [qF_0 (by assumption) (by assumption) (.inl (by assumption))];exact ⟨rfl,rfl⟩)
    | (rw [qF_0 (by assumption) (by assumption) (.inr (or34 ht))];exact ⟨rfl,rfl⟩)
    | (rw [qF_0 (by assumption) (by assumption) (.inr (.inl (by assumption)))];exact ⟨rfl,rfl⟩)
    | (rw [qF_0 (by assumption) (by assumption) (.inr (.inr (by assumption)))];exact ⟨rfl,rfl⟩)
    | (rw [qF_6 (by assumption) (by assumption) (by assumption) (zfB_ ht).1 (zfB_ ht).2];exact ⟨rfl,rfl⟩)
    | (rw [qF_6 (by assumption) (by assumption) (by assumption) (by assumption) (by assumption)];exact ⟨rfl,rfl⟩)
  ·have e:qF 11 l=if 3 < l.getD 2 0 then 269 else 0:=if_pos rfl
   repeat'(intro t ht;first|(cases t<;>first|(cases ht;done)|(try simp only[zg_]at ht;try(exfalso;first|contradiction|omega)))|((first|refine zb_ ht ?_|refine ht ?_ ?_|refine ht.1 ?_ ?_|refine ht ?_)<;>clear ht))
   all_goals first
    | exact True.intro
    | omega
    | (constructor<;>omega)
    | (rw [e,if_pos (by assumption)];exact ⟨rfl,rfl⟩)
    | (rw [e,if_neg (by assumption)];exact ⟨rfl,rfl⟩)
 ·cases e
def BC_:IR:=
(sq (kr [0,1] [oD 4 (.mov (cI 0))])
(sq (sq (.reg [oM 5 0,
oB 6 .eql 5 (cI 11)])
(.cond 6
(sq (sq (.reg [oM 7 1,
oD 8 (.indexSl 1 7 (cI 2)),
oL 9 8,
oB 10 .gtr 9 (.c (.int .u64 3))])
(.cond 10
(sq (kr [] [oD 4 (.mov (cI 269))])
.ret)
.skip))
(sq (kr [] [oD 4 (.mov (cI 0))])
.ret))
.skip))
(sq (sq (.reg [oM 11 1,
oD 12 (.indexSl 1 11 (cI 3)),
oL 13 12,
oB 14 .gtr 13 (.c (.int .u64 4))])
(.cond 14
(sq (kr [] [oD 4 (.mov (cI 1287))])
.ret)
.skip))
(sq (sq (kr [1] [oM 15 1,
oD 16 (.indexSl 1 15 (cI 10)),
oL 17 16,
oB 18 .gtr 17 (.c (.int .u64 31))])
(.cond 18
(sq (.reg [oD 4 (.mov (cI 1288))])
.ret)
.skip))
(sq (sq (kr [1] [oM 19 1,
oD 20 (.indexSl 1 19 (cI 2)),
oL 21 20,
oB 22 .eql 21 (.c (.int .u64 255)),
oM 23 22,
oT 23 24 (.mov 1),
oT 23 25 (.indexSl 1 24 (cI 3)),
oT 23 26 (.load none 25),
oT 23 27 (.bin .neq 26 (.c (.int .u64 3))),
oP 28 23 27 cF,
oM 29 28,
oT 29 30 (.mov 1),
oT 29 31 (.indexSl 1 30 (cI 3)),
oT 29 32 (.load none 31),
oT 29 33 (.bin .neq 32 (.c (.int .u64 4))),
oP 34 29 33 cF])
(.cond 34
(sq (kr [] [oD 4 (.mov (cI 266))])
.ret)
.skip))
(sq (kr [] [oD 4 (.mov (cI 0))])
.ret))))))
def bk_:List RD:=[.tmp 4 true none]
theorem bV_:zm_ Tryz.prog Tryz.f40 BC_ bk_=true:=by kernel_rfl
def x9_:List AV->List Obj->Option (Prop × AV)
 | [.int .i64 tt,.imm (.int .u64) l],[]=>some ((kF tt=true/\(l.length:Int)=zH_ (wF tt),.int .i64 (qF tt l)))
 | _,_=>none
theorem g4_:zd_ Tryz.prog 40 (RoF x9_).sum:=by
 refine zi_ Tryz.func40 bV_ (zc_ _) fun args objs p v e=>?_
 unfold x9_ at e
 split at e
 ·rename_i tt l
  cases e
  refine ⟨rfl,fun hw ho hp=>?_⟩
  change List Int at l
  have hl:=lF hp.1 hp.2
  clear hw ho hp
  rcases hl with ⟨rfl,hl⟩ | ⟨rfl,hl⟩
  ·repeat'(intro t ht;first|(cases t<;>first|(cases ht;done)|(try simp only[zg_]at ht;try(exfalso;first|contradiction|omega)))|((first|refine zb_ ht ?_|refine ht ?_ ?_|refine ht.1 ?_ ?_|refine ht ?_)<;>clear ht))
   all_goals first
    | exact True.intro
    | omega
    | (constructor<;>omega)
    | (rw [qF_7 (by assumption)];exact ⟨rfl,rfl⟩)
    | (rw [qF_8 (by assumption) (by assumption)];exact ⟨rfl,rfl⟩)
    | (rw [qF_0 (by assumption) (by assumption) (.inl (by assumption))];exact ⟨rfl,rfl⟩)
    | (rw [qF_0 (by assumption) (by assumption) (.inr (or34 ht))];exact ⟨rfl,rfl⟩)
    | (rw [qF_0 (by assumption) (by assumption) (.inr (.inl (by assumption)))];exact ⟨rfl,rfl⟩)
    | (rw [qF_0 (by assumption) (by assumption) (.inr (.inr (by assumption)))];exact ⟨rfl,rfl⟩)
    | (rw [qF_6 (by assumption) (by assumption) (by assumption) (zfB_ ht).1 (zfB_ ht).2];exact ⟨rfl,rfl⟩)
    | (rw [qF_6 (by assumption) (by assumption) (by assumption) (by assumption) (by assumption)];exact ⟨rfl,rfl⟩)
  ·have e:qF 11 l=if 3 < l.getD 2 0 then 269 else 0:=if_pos rfl
   repeat'(intro t ht;first|(cases t<;>first|(cases ht;done)|(try simp only[zg_]at ht;try(exfalso;first|contradiction|omega)))|((first|refine zb_ ht ?_|refine ht ?_ ?_|refine ht.1 ?_ ?_|refine ht ?_)<;>clear ht))
   all_goals first
    | exact True.intro
    | omega
    | (constructor<;>omega)
    | (rw [e,if_pos (by assumption)];exact ⟨rfl,rfl⟩)
    | (rw [e,if_neg (by assumption)];exact ⟨rfl,rfl⟩)
 ·cases e
def vu_:IR:=
(sq (kr [0] [oD 2 (.nilrow (.int .u8))])
(sq (sq (.reg [oM 3 0,
oD 4 (.isnil false 3)])
(.cond 4
(sq (.reg [oD 2 (.nilrow (.int .u8))])
.ret)
.skip))
(sq (.reg [oD 5 (.slice0 (.int .u8)),
oM 6 0,
oD 7 (.append (.int .u8) 1 5 6),
oM 2 7])
.ret)))
def Y9_:List RD:=[.tmp 2 false none]
theorem vj_:zm_ Tryz.prog Tryz.f67 vu_ Y9_=true:=by kernel_rfl
def Kn_:List AV->List Obj->Option (Prop × AV × List Obj)
 | [.imm (.int .u8) b],[]=>some ((b.length<=140737488355328,.own 0,[.row false (.int .u8) b]))
 | _,_=>none
theorem y5_:zd_ Tryz.prog 67 (RwF Kn_).sum:=by
 refine qa_ Tryz.func67 vj_ (zc_ _) fun args objs p v o e=>?_
 unfold Kn_ at e
 split at e
 ·rename_i b
  cases e
  refine ⟨rfl,fun hw ho hp=>?_⟩
  change List Int at b
  repeat'(intro t ht;first|(cases t<;>first|(cases ht;done)|(try simp only[zg_]at ht))|((first|refine zb_ ht ?_|refine ht ?_ ?_|refine ht.1 ?_ ?_|refine ht ?_)<;>clear ht))
  all_goals first
   | (simp only [zX_,List.length_nil,Nat.zero_add,Nat.mul_one];omega)
   | exact ⟨rfl,rfl⟩
   | (have e:b=[]:=by simp_all
      subst e;exact ⟨rfl,rfl⟩)
 ·cases e
def JA_:IR:=
(sq (kr [0] [oD 2 (.nilrow (.int .u8)),
oD 3 (.mov (cI 0))])
(sq (.block 0
(sq (.reg [oM 5 0,
oC 6 66 [5],
oM 4 6])
(.cond 4
(sq (.reg [oD 2 (.nilrow (.int .u8)),
oD 3 (.mov (cI 10001))])
.ret)
(sq (kr [0] [oM 8 0,
oD 9 (.nilck 8),
oA 10 3 9,
oL 11 10,
oB 12 .neq 11 (cI 0),
oM 7 12])
(.cond 7
(sq (kd [0] [(oM 13 0,[]),
(oD 14 (.nilck 13),[]),
(oA 15 3 14,[]),
(oL 16 15,[]),
(oD 2 (.nilrow (.int .u8)),[0,0,0,0]),
(oM 3 16,[])])
.ret)
(sq (kr [0] [oM 18 0,
oD 19 (.nilck 18),
oA 20 2 19,
oL 21 20,
oD 22 (.mlen 21),
oB 23 .gtr 22 (cI 0),
oM 17 23])
(.cond 17
(sq (kr [] [oD 2 (.nilrow (.int .u8)),
oD 3 (.mov (cI 10001))])
.ret)
.skip)))))))
(sq (kr [0] [oM 24 0,
oD 25 (.nilck 24),
oA 26 0 25,
oL 27 26,
oC 28 67 [27],
oM 2 28,
oD 3 (.mov (cI 0))])
.ret)))
def Jv_:List RD:=[.tmp 2 false none,.tmp 3 false none]
theorem Jy_:zm_ Tryz.prog Tryz.f29 JA_ Jv_=true:=by kernel_rfl
def ql_:List AV->List Obj->Option (Prop × AV × List Obj)
 | [.ptr 0 0],[.box [.own 1,.int .i64 room,.mapv 2,.int .i64 e],.row false (.int .u8) l,.map sq (.int .i64) (.int .i64) h]=>some ((l.length<=140737488355328/\h.length<=140737488355328,.tup [.own 3,.int .i64 (ks_ h e)],[.box [.own 1,.int .i64 room,.mapv 2,.int .i64 e],.row false (.int .u8) l,.map sq (.int .i64) (.int .i64) h,.row false (.int .u8) (QG_ l h e)]))
 | _,_=>none
theorem jZ_:zd_ Tryz.prog 29 (RwF ql_).sum:=by
 refine qa_ Tryz.func29 Jy_ (za_ (s:=RoF z8_) Zu_ (za_ (s:=RwF Kn_) y5_ (zc_ _))) fun args objs p v o e=>?_
 unfold ql_ at e
 split at e
 ·rename_i room e l sq h
  cases e
  refine ⟨rfl,fun hw ho hp=>?_⟩
  change List Int at l
  change List (Int × Int) at h
  repeat'(intro t ht;first|(cases t<;>first|(cases ht;done)|(try simp only[zg_]at ht))|((first|refine zb_ ht ?_|refine ht ?_ ?_|refine ht.1 ?_ ?_|refine ht ?_)<;>clear ht))
  all_goals first
   | exact True.intro
   | exact hp.1
   | exact hp.2
   | (have h0:e=0:=by assumption
      have h1:h.length=0:=by omega
      have e1:ks_ h e=0:=by unfold ks_;rw [if_pos h0,if_pos h1]
      have e2:QG_ l h e=l:=by unfold QG_ je_;rw [decide_eq_true h0,decide_eq_true h1];rfl
      rw [e1,e2];exact ⟨rfl,rfl⟩)
   | (have hb:je_ h e=false:=by unfold je_;simp only [Bool.and_eq_false_iff,decide_eq_false_iff_not];omega
      unfold QG_ ks_;rw [hb]
      first
       | (rw [if_neg (by assumption)];exact ⟨rfl,rfl⟩)
       | (have h0:e=0:=by assumption
          have h1:¬ h.length=0:=by omega
          rw [if_pos h0,if_neg h1];exact ⟨rfl,rfl⟩))
 ·cases e
theorem zla_ (xi:Int) (n d:List Int) (el:List VEl) (x:List OV) (a:List AC) (ins:List VIn) (m8:List BK × List VBd × List VQu × List PV × Int × Int × List VPa × Unit):
 wrF ((14,xi,n,d,el,x,a,ins,m8):VMs)=if qF 14 n=0/\JM_ ((14,xi,[],d,el,[],a,[],m8):VMs)=true then fnF (vF 14 n x ins) else ([],10001):=by
 have e:zbw_ ((14,xi,n,d,el,x,a,ins,m8):VMs)=(14,xi,[],d,el,[],a,[],m8):=rfl
 unfold wrF
 rw [e]
 show (if kF 14=true/\qF 14 n=0/\_ then fnF (vF 14 n x ins) else _)=_
 have k:kF 14=true:=rfl
 simp only [k,true_and]
theorem zlb_ (xi:Int) (n d:List Int) (el:List VEl) (x:List OV) (a:List AC) (ins:List VIn) (m8:List BK × List VBd × List VQu × List PV × Int × Int × List VPa × Unit):
 wrF ((11,xi,n,d,el,x,a,ins,m8):VMs)=if qF 11 n=0/\JM_ ((11,xi,[],d,el,[],a,ins,m8):VMs)=true then fnF (vF 11 n x ins) else ([],10001):=by
 have e:zbw_ ((11,xi,n,d,el,x,a,ins,m8):VMs)=(11,xi,[],d,el,[],a,ins,m8):=rfl
 unfold wrF
 rw [e]
 show (if kF 11=true/\qF 11 n=0/\_ then fnF (vF 11 n x ins) else _)=_
 have k:kF 11=true:=rfl
 simp only [k,true_and]
theorem zjr_ (tt xi:Int) (n d:List Int) (el:List VEl) (x:List OV) (a:List AC) (ins:List VIn) (m8:List BK × List VBd × List VQu × List PV × Int × Int × List VPa × Unit) (h1:¬ tt=14) (h2:¬ tt=11):
 wrF ((tt,xi,n,d,el,x,a,ins,m8):VMs)=([],10001):=zhf_ fun c=>by rw [show mT ((tt,xi,n,d,el,x,a,ins,m8):VMs)=tt from rfl,(zch_ h1 h2).1] at c;cases c.1
theorem zj8_ {x:List VIn} {l:List Int} {room e:Int} (h:l.length<=1000000) (hr:room<=1000000):(ipB l room e x).length<=1000000:=Q9_ h hr
theorem zkY_ (e:Int):¬ zv_ e 10001=0:=by unfold zv_;split<;>omega
def gf_:IR:=
(sq (kr [0] [oD 1 (.boxv 0),
oD 2 (.nilrow (.int .u8)),
oD 3 (.mov (cI 0))])
(sq (kr [1] [oA 12 0 1,
oL 13 12,
oC 14 26 [13],
oM 11 14,
oX 15 11 0,
oX 16 11 1,
oM 4 15,
oM 5 16])
(sq (kr [1,4,5] [oC 17 27 [(cI 65527)],
oM 6 17])
(sq (kr [1,4,5,6] [oM 18 6,
oM 19 4,
oA 20 2 1,
oL 21 20,
oC 22 28 [18,19,21]])
(sq (sq (kr [1,5,6] [oM 24 6,
oC 25 29 [24],
oM 23 25,
oX 26 23 0,
oX 27 23 1,
oM 7 26,
oM 8 27])
(sq (kr [1,5,6,8] [oM 28 5,
oD 29 (.un .not 28),
oM 30 29,
oF 30 31 (.mov 8),
oF 30 32 (.bin .neq 31 (cI 0)),
oP 33 30 cT 32,
oM 34 33,
oF 34 35 (.fieldAddr 0 1),
oF 34 36 (.load none 35),
oF 34 37 (.fieldAddr 2 1),
oF 34 38 (.load none 37),
oF 34 39 (.call false (.f 30) [36,38]),
oF 34 40 (.bin .neq 39 (cI 0)),
oP 41 34 cT 40])
(.cond 41
(sq (kr [] [oD 2 (.nilrow (.int .u8)),
oD 3 (.mov (cI 10001))])
.ret)
.skip)))
(sq (kr [1,6] [oM 42 6,
oA 43 5 1,
oL 44 43,
oC 45 31 [42,44]])
(sq (.reg [oA 46 2 1,
oN (.store 1 46 (.c (.imm (.int .u64) []))),
oA 47 5 1,
oN (.store 1 47 (.c (.imm Y1 [])))])
(sq (sq (.reg [oA 48 0 1,
oL 49 48])
(.block 0
(sq (.block 2
(sq (.block 1
(sq (sq (kr [1,6,49] [oB 51 .eql 49 (cI 14),
oM 50 51])
(.cond 50
(.exit 1)
.skip))
(.exit 2)))
(sq (kr [1,6] [oM 52 6,
oA 53 7 1,
oL 54 53,
oC 55 32 [52,54]])
(.reg [oA 56 7 1,
oN (.store 1 56 (.c (.imm Y3 [])))]))))
(sq (sq (kr [1,6] [oK 57 15 1,
oC 58 33 [57],
oD 59 (.un .not 58)])
(.cond 59
(.reg [oM 60 6,
oC 61 34 [60,(cI 10001)]])
.skip))
(.exit 0)))))
(sq (kr [6] [oM 63 6,
oC 64 29 [63],
oM 62 64,
oX 65 62 0,
oX 66 62 1,
oM 9 65,
oM 10 66])
(sq (sq (kr [9,10] [oM 67 10,
oB 68 .neq 67 (cI 0)])
(.cond 68
(sq (.reg [oD 2 (.nilrow (.int .u8)),
oD 3 (.mov (cI 10001))])
.ret)
.skip))
(sq (.reg [oM 69 9,
oM 2 69,
oD 3 (.mov (cI 0))])
.ret)))))))))))
def Un_:List RD:=[.tmp 2 false none,.tmp 3 false none]
theorem UP_:zm_ Tryz.prog Tryz.f9 gf_ Un_=true:=by kernel_rfl
def j7_ (W:VMs->List Int × Int):List AV->List Obj->Option (Prop × AV × List Obj)
 | [.agg zz0],[]=>Vs_ YD zz0 fun ⟨tt,xi,n,d,el,x,a,ins,bu,ba,qu,po,ki,fl,pa,_⟩=>some ((okM x/\okI ins/\n.length<=1000000,.tup [.own 0,.int .i64 (W ((tt,xi,n,d,el,x,a,ins,bu,ba,qu,po,ki,fl,pa,()):VMs)).2],[.row false (.int .u8) ((W ((tt,xi,n,d,el,x,a,ins,bu,ba,qu,po,ki,fl,pa,()):VMs)).1)]))
 | _,_=>none
def k1_:List AV->List Obj->Option (Prop × AV × List Obj):=j7_ wrF
theorem VI_:zd_ Tryz.prog 9 (RwF k1_).sum:=by
 refine qa_ Tryz.func9 UP_ (za_ (s:=RoF QL_) kS_ (za_ (s:=RwF qk_) qM_ (za_ (s:=RwF zO_) z2_ (za_ (s:=RwF ql_) jZ_ (za_ (s:=RoF kd_) K5_ (za_ (s:=RwF Xk_) Gf_ (za_ (s:=RwF Xl_) Gg_ (za_ (s:=RoF w6_) u3_ (za_ (s:=RwF zF_) zJ_ (zc_ _)))))))))) fun args objs p v o e=>?_
 unfold k1_ j7_ at e
 split at e
 ·rename_i zz0
  replace e:=JH_ e
  obtain ⟨⟨tt,xi,n,d,el,x,a,ins,bu,ba,qu,po,ki,fl,pa,_⟩,hz,e⟩:=e
  replace hz:zz0=[.int .i64 tt,.int .u32 xi,.imm (.int .u64) n,.imm (.int .u8) d,.imm YB el,.imm Y1 x,.imm Y2 a,.imm Y3 ins,.imm Y4 bu,.imm Y5 ba,.imm Y7 qu,.imm Y8 po,.int .i64 ki,.int .i64 fl,.imm YC pa]:=hz
  subst hz
  change Int at tt
  change Int at xi
  change Int at ki
  change Int at fl
  cases e
  refine ⟨rfl,fun hw ho hp=>?_⟩
  change List Int at n
  change List Int at d
  clear hw ho
  change List VIn at ins
  change List OV at x
  change List Int at n
  obtain ⟨hx,hi,hn⟩:=hp
  have hroom:xm_ 65527=65527:=by decide
  have z:([]:List Int).length<=1000000:=by decide
  have l0:∀ w,(qK_ w n [] 65527 0).length<=1000000:=fun w=>xl_ z (by decide)
  have l1:∀ w e,(mpB x (qK_ w n [] 65527 0) 65527 e).length<=1000000:=fun w e=>zjZ_ (l0 w) (by decide)
  have l2:∀ w e e2,(ipB (mpB x (qK_ w n [] 65527 0) 65527 e) 65527 e2 ins).length<=1000000:=fun w e e2=>zj8_ (l1 w e) (by decide)
  have fin:∀ y e,wrF ((tt,xi,n,d,el,x,a,ins,bu,ba,qu,po,ki,fl,pa,()):VMs)=(y,e)->AV.tup [.own 0,.int .i64 e]=AV.tup [.own 0,.int .i64 (wrF ((tt,xi,n,d,el,x,a,ins,bu,ba,qu,po,ki,fl,pa,()):VMs)).2]/\[Obj.row false (.int .u8) y]=[.row false (.int .u8) ((wrF ((tt,xi,n,d,el,x,a,ins,bu,ba,qu,po,ki,fl,pa,()):VMs)).1)]:=fun y e h=>by rw [h];exact ⟨rfl,rfl⟩
  by_cases h14:tt=14
  ·subst h14
   obtain ⟨k1,k2,k3⟩:=zmZ_ n x ins
   have k0:=zla_ xi n d el x a ins (bu,ba,qu,po,ki,fl,pa,())
   have hw14:wF 14=w14:=rfl
   repeat'(intro t ht;first|(cases t<;>first|(cases ht;done)|(try simp only[zg_]at ht;try(exfalso;first|contradiction|omega)))|((first|refine zb_ ht ?_|refine ht ?_ ?_|refine ht.1 ?_ ?_|refine ht ?_)<;>clear ht))
   all_goals (try simp only [vF_,hroom,hw14] at*)
   all_goals first
    | exact True.intro
    | exact ⟨by decide,by decide,z⟩
    | exact ⟨by decide,by decide,z,hn⟩
    | exact ⟨Nat.le_trans (l0 _) (by decide),by decide⟩
    | exact ⟨Nat.le_trans (l1 _ _) (by decide),by decide⟩
    | exact ⟨Nat.le_trans (l2 _ _ _) (by decide),by decide⟩
    | exact ⟨rfl,zbt_ (zhB_ ht)⟩
    | exact ⟨hx,by decide,by decide,l0 _⟩
    | exact ⟨hi,by decide,by decide,l1 _ _⟩
    | exact absurd ht (zkY_ _)
    | (have g:=fin _ _ (k0.trans (if_neg fun c=>absurd c.1 (by assumption)));exact g)
    | (have hb:JM_ ((14,xi,[],d,el,[],a,[],bu,ba,qu,po,ki,fl,pa,()):VMs)=false:=by assumption
       have g:=fin _ _ (k0.trans (if_neg fun c=>by rw [hb] at c;cases c.2));exact g)
    | (have h1:¬ fE2 n x ins=0:=by first | exact k3 ht | exact ht
       have g:=fin _ _ (k0.trans (by split;· exact k2 h1
                                     ·rfl));exact g)
    | (have he:fE2 n x ins=0:=by assumption
       have hd:QG_ (fL2 n x ins) [] (fE2 n x ins)=fL2 n x ins:=(zfR_ (by rw [vF_];exact he)).1
       have hq:qF 14 n=0:=by assumption
       have hb:JM_ ((14,xi,[],d,el,[],a,[],bu,ba,qu,po,ki,fl,pa,()):VMs)=true:=by assumption
       have g:=fin (QG_ (fL2 n x ins) [] (fE2 n x ins)) 0 (by rw [hd,k0,if_pos ⟨hq,hb⟩,k1 he]);exact g)
  ·by_cases h11:tt=11
   ·subst h11
    obtain ⟨k1,k2,k3⟩:=zm0_ n x ins
    have k0:=zlb_ xi n d el x a ins (bu,ba,qu,po,ki,fl,pa,())
    have hw11:wF 11=w11:=rfl
    repeat'(intro t ht;first|(cases t<;>first|(cases ht;done)|(try simp only[zg_]at ht;try(exfalso;first|contradiction|omega)))|((first|refine zb_ ht ?_|refine ht ?_ ?_|refine ht.1 ?_ ?_|refine ht ?_)<;>clear ht))
    all_goals (try simp only [vF_,hroom,hw11] at*)
    all_goals first
     | exact True.intro
     | exact ⟨by decide,by decide,z⟩
     | exact ⟨by decide,by decide,z,hn⟩
     | exact ⟨Nat.le_trans (l0 _) (by decide),by decide⟩
     | exact ⟨Nat.le_trans (l1 _ _) (by decide),by decide⟩
     | exact ⟨Nat.le_trans (l2 _ _ _) (by decide),by decide⟩
     | exact ⟨rfl,zbt_ (zhB_ ht)⟩
     | exact ⟨hx,by decide,by decide,l0 _⟩
     | exact ⟨hi,by decide,by decide,l1 _ _⟩
     | exact absurd ht (zkY_ _)
     | (have g:=fin _ _ (k0.trans (if_neg fun c=>absurd c.1 (by assumption)));exact g)
     | (have hb:JM_ ((11,xi,[],d,el,[],a,ins,bu,ba,qu,po,ki,fl,pa,()):VMs)=false:=by assumption
        have g:=fin _ _ (k0.trans (if_neg fun c=>by rw [hb] at c;cases c.2));exact g)
     | (have h1:¬ fE1 w11 n x=0:=by first | exact k3 ht | exact ht
        have g:=fin _ _ (k0.trans (by split;· exact k2 h1
                                      ·rfl));exact g)
     | (have he:fE1 w11 n x=0:=by assumption
        have hd:QG_ (fL1 w11 n x) [] (fE1 w11 n x)=fL1 w11 n x:=(zfR_ (by rw [vF_];exact he)).1
        have hq:qF 11 n=0:=by assumption
        have hb:JM_ ((11,xi,[],d,el,[],a,ins,bu,ba,qu,po,ki,fl,pa,()):VMs)=true:=by assumption
        have g:=fin (QG_ (fL1 w11 n x) [] (fE1 w11 n x)) 0 (by rw [hd,k0,if_pos ⟨hq,hb⟩,k1 he]);exact g)
   ·have k0:=zjr_ tt xi n d el x a ins (bu,ba,qu,po,ki,fl,pa,()) h14 h11
    obtain ⟨k1,k2⟩:=zch_ h14 h11
    have k3:¬ kF tt=true:=by rw [k1];decide
    repeat'(intro t ht;first|(cases t<;>first|(cases ht;done)|(try simp only[zg_]at ht;try(exfalso;first|contradiction|omega)))|((first|refine zb_ ht ?_|refine ht ?_ ?_|refine ht.1 ?_ ?_|refine ht ?_)<;>clear ht))
    all_goals (try simp only [vF_,hroom,k2] at*)
    all_goals first
     | exact True.intro
     | exact ⟨by decide,by decide,z⟩
     | exact ⟨by decide,by decide,z,hn⟩
     | exact ⟨Nat.le_trans (l0 _) (by decide),by decide⟩
     | (have g:=fin _ _ k0;exact g)
 ·cases e
end Go.Eng
