/- Parts of the proof: P7, P8, P9. No condition. -/
import Derived.Test.YtjajlkddpekdjaaGreatDoorProg
import Derived.Test.YtjajlkddpekdjaaGreatDoorXC10
import Derived.KernelRfl
import Derived.Test.YtjajlkddpekdjaaGreatDoorXC17
import Derived.Test.YtjajlkddpekdjaaGreatDoorXC12
namespace Go.Eng
open Go.Proofs
set_option linter.unusedVariables false
set_option linter.unusedSimpArgs false
set_option maxRecDepth 100000
set_option maxHeartbeats 1000000
def Zi_:IR:=
(sq (kr [0,1,2] [oD 6 (.mov cF)])
(sq (sq (kr [0,1,2] [oM 10 0,
oE 11 10,
oM 12 1,
oE 13 12,
oB 14 .neq 11 13])
(.cond 14
(sq (.reg [oD 6 (.mov cF)])
.ret)
.skip))
(sq (sq (kr [0,1,2] [oM 15 0,
oE 16 15,
oD 17 (.mov (cI 0))])
(.block 0
(.loop
(sq (kr [1,2,15,16,17] [oB 18 .lss 17 16])
(sq (.cond 18
.skip
(.exit 0))
(sq (.block 1
(sq (kr [1,2,15,16,17] [oM 19 17,
oI 20 6 15 17,
oK 21 6 20,
oD 8 (.box [.int .i64 0,.int .i64 0,.kb false,.int .u64 0,.imm (.int .u8) [],.imm (.int .u8) []]),
oM 7 19,
oS 6 8 21])
(sq (kr [1,2,7,8,15,16,17] [oM 22 1,
oM 23 7,
oI 24 6 22 23,
oK 25 6 24,
oD 9 (.box [.int .i64 0,.int .i64 0,.kb false,.int .u64 0,.imm (.int .u8) [],.imm (.int .u8) []]),
oS 6 9 25])
(sq (kr [1,2,8,9,15,16,17] [oM 26 2,
oK 27 6 8,
oK 28 6 9,
oD 29 (.call false 26 [27,28]),
oD 30 (.un .not 29)])
(.cond 30
(sq (.reg [oD 6 (.mov cF)])
.ret)
.skip)))))
(kr [1,2,15,16,17] [oB 31 .add 17 (cI 1),
oM 17 31])))))))
(sq (kr [] [oD 6 (.mov cT)])
.ret))))
def Zg_:List RD:=[.tmp 6 true none]
theorem Zh_:zn_ Tryz.prog Tryz.f40 Zi_ Zg_=true:=by kernel_rfl
def zp_:List AV->List Obj->Option (Prop × AV)
 | [.imm (.cons (.int .i64) (.cons (.int .i64) (.cons .bool (.cons (.int .u64) (.cons (.sl (.int .u8)) (.cons (.sl (.int .u8)) .nil)))))) a,.imm (.cons (.int .i64) (.cons (.int .i64) (.cons .bool (.cons (.int .u64) (.cons (.sl (.int .u8)) (.cons (.sl (.int .u8)) .nil)))))) b,.fn 41 [] []],[]=>some ((True,.bool (decide ((a:List OV)=b))))
 | _,_=>none
theorem Zc_:zf_ Tryz.prog 40 (RoF zp_).sum:=by
 refine zi_ Tryz.func40 Zh_ (zb_ (s:=RoF jd_) wo_ (ze_ _)) fun args objs p v e=>?_
 unfold zp_ at e
 split at e
 ·rename_i a b
  cases e
  refine ⟨rfl,fun hw ho hp=>?_⟩
  change List OV at a
  change List OV at b
  have hl:a.length<=maxLen:=(hw (.imm Y1 a) (by simp)).2
  unfold maxLen at hl
  clear hw ho
  repeat'(intro t ht;first|(cases t<;>first|(cases ht;done)|(try simp only[zg_]at ht))|((first|refine za_ ht ?_|refine ht ?_ ?_|refine ht.1 ?_ ?_|refine ht ?_)<;>clear ht))
  all_goals first
   | (have hne:a ≠ b:=fun h=>(by assumption:¬ (a.length:Int)=b.length) (by rw [h])
      refine ⟨?_,rfl⟩;rw [decide_eq_false hne];done)
   | (intro r h1 h2;clear h1;refine h2 ⟨[1,2,15,16,17],Nat,(fun i=>i<=a.length/\a.take i=b.take i),fun i=>[.imm Y1 b,.fn 41 [] [],.imm Y1 a,.int .i64 a.length,.int .i64 i],fun _=>[],fun i=>a.length - i,⟨0,⟨Nat.zero_le _,rfl⟩,rfl,rfl⟩,?_⟩;clear h2)
  rintro i ⟨hi,he⟩
  have hl2:a.length=b.length:=by omega
  repeat'(intro t ht;first|(cases t<;>first|(cases ht;done)|(try simp only[zg_]at ht;try(exfalso;first|contradiction|omega)))|((first|refine za_ ht ?_|refine ht ?_ ?_|refine ht.1 ?_ ?_|refine ht ?_)<;>clear ht))
  all_goals (try generalize (Ty.dflt Y1)=od at*)
  all_goals first
   | exact True.intro
   | ((try simp only [zy_,zz_,zm_] at*);omega)
   | (have e:=h6_ he (by omega) hl2
      refine ⟨?_,rfl⟩;rw [decide_eq_true e];done)
   | (have hne:a ≠ b:=tkNe (d:=od) (i:=i) (BY_ (by assumption))
      refine ⟨?_,rfl⟩;rw [decide_eq_false hne];done)
   | exact ⟨i+1,⟨by omega,U7_ he (by omega) hl2 (d:=od) (BX_ (by assumption))⟩,by (try simp only [zy_,zz_,zm_] at*);omega,rfl,rfl⟩
   | skip
 ·cases e
def YS_:IR:=
(sq (kr [0,1] [oD 4 (.mov cF)])
(sq (.reg [oM 5 0,
oM 6 1,
oC 7 40 [5,6,.f 41],
oM 4 7])
.ret))
def Yk_:List RD:=[.tmp 4 true none]
theorem YA_:zn_ Tryz.prog Tryz.f15 YS_ Yk_=true:=by kernel_rfl
def jh_:List AV->List Obj->Option (Prop × AV)
 | [.imm (.cons (.int .i64) (.cons (.int .i64) (.cons .bool (.cons (.int .u64) (.cons (.sl (.int .u8)) (.cons (.sl (.int .u8)) .nil)))))) a,.imm (.cons (.int .i64) (.cons (.int .i64) (.cons .bool (.cons (.int .u64) (.cons (.sl (.int .u8)) (.cons (.sl (.int .u8)) .nil)))))) b],[]=>some ((True,.bool (decide ((a:List OV)=b))))
 | _,_=>none
theorem Xl_:zf_ Tryz.prog 15 (RoF jh_).sum:=by
 refine zi_ Tryz.func15 YA_ (zb_ (s:=RoF zp_) Zc_ (zb_ (s:=RoF jd_) wo_ (ze_ _))) fun args objs p v e=>?_
 unfold jh_ at e
 split at e
 ·rename_i a b
  cases e
  refine ⟨rfl,fun hw ho hp=>?_⟩
  clear hw ho
  repeat'(intro t ht;first|(cases t<;>first|(cases ht;done)|(try simp only[zg_]at ht;try(exfalso;first|contradiction|omega)))|((first|refine za_ ht ?_|refine ht ?_ ?_|refine ht.1 ?_ ?_|refine ht ?_)<;>clear ht))
  all_goals first
   | exact True.intro
   | exact ⟨rfl,rfl⟩
   | exact rfl
 ·cases e
def rfO (o:OV):Bool:=Xy_ o.1 o.2.1 o.2.2.1 o.2.2.2.1 o.2.2.2.2.1 o.2.2.2.2.2.1
def onI (l:List OV) (i:Nat) (k:Nat):Bool:=!alO (l.getD i odO) (l.getD k odO)
def onA (l:List OV) (i:Nat):Bool:=rfO (l.getD i odO) && (List.range i).all (onI l i)
def onF (l:List OV):Bool:=(List.range l.length).all (onA l)
theorem zas_ {l:List OV} (hb:∀ o ∈ l,zT_ o) (h:onF l=true):Pkt l:=by
 unfold onF at h
 rw [List.all_eq_true] at h
 have h1:∀ i:Nat,i < l.length->rfO (l.getD i odO)=true/\∀ k,k < i->alO (l.getD i odO) (l.getD k odO)=false:=fun i hi=>by
  have:=h i (List.mem_range.2 hi)
  unfold onA at this
  rw [Bool.and_eq_true,List.all_eq_true] at this
  refine ⟨this.1,fun k hk=>?_⟩
  have:=this.2 k (List.mem_range.2 hk)
  unfold onI at this
  rwa [Bool.not_eq_true'] at this
 refine ⟨fun o ho=>?_,hb,?_⟩
 ·obtain ⟨i,hi,rfl⟩:=List.mem_iff_getElem.1 ho
  have hg:l.getD i odO=l[i]:=by rw [List.getD_eq_getElem?_getD,List.getElem?_eq_getElem hi];rfl
  have h2:=(h1 i hi).1
  rw [hg] at h2
  have b:=hb _ ho
  refine Hm_ ?_ b
  have e:rfO l[i]=rgO l[i]:=(he_ b.1 b.2.1 b.2.2).symm
  rw [<- e];exact h2
 ·refine List.pairwise_iff_getElem.2 fun i j hi hj hij=>?_
  have h2:=(h1 j hj).2 i hij
  rw [List.getD_eq_getElem?_getD,List.getElem?_eq_getElem hj,List.getD_eq_getElem?_getD,List.getElem?_eq_getElem hi] at h2
  exact ks_ h2
theorem zau_ {l:List OV} {i:Nat} (hi:i < l.length) (h:rfO (l.getD i odO)=false):onF l=false:=Js_ hi (by unfold onA;rw [h];rfl)
theorem zat_ {l:List OV} {i k:Nat} (hi:i < l.length) (hk:k < i) (h:alO (l.getD i odO) (l.getD k odO)=true):onF l=false:=Js_ hi (by
 unfold onA
 rw [Js_ hk (by unfold onI;rw [h];rfl),Bool.and_false])
theorem Bb_ {l:List OV} {i:Nat} (hJ:(List.range i).all (onA l)=true) (h:rfO (l.getD i odO)=true) (hK:(List.range i).all (onI l i)=true):(List.range (i+1)).all (onA l)=true:=KH_ hJ (by unfold onA;rw [h,hK];rfl)
def Ut_:IR:=
(sq (kr [0] [oD 2 (.mov cF)])
(sq (sq (.reg [oD 3 (.mov (cI 0))])
(.block 0
(.loop
(sq (sq (kr [0,3] [oM 5 3,
oM 6 0,
oE 7 6,
oB 8 .lss 5 7])
(.cond 8
.skip
(.exit 0)))
(sq (.block 1
(sq (sq (kr [0,3] [oM 11 0,
oM 12 3,
oI 13 6 11 12,
oK 14 6 13,
oC 15 32 [14],
oD 16 (.un .not 15)])
(.cond 16
(sq (kr [] [oD 2 (.mov cF)])
.ret)
.skip))
(sq (kr [0,3] [oD 4 (.mov (cI 0))])
(.block 2
(.loop
(sq (sq (kr [0,3,4] [oM 17 4,
oM 18 3,
oB 19 .lss 17 18])
(.cond 19
.skip
(.exit 2)))
(sq (.block 3
(sq (kd [0,3,4] [(oM 22 0,[]),
(oM 23 3,[0]),
(oI 24 6 22 23,[]),
(oK 25 6 24,[]),
(oM 26 0,[0,0,0,0]),
(oM 27 4,[0,0,0,0,0]),
(oI 28 6 26 27,[2,0,0,0]),
(oK 29 6 28,[3,0,0,0]),
(oC 30 23 [25,29],[])])
(.cond 30
(sq (kr [] [oD 2 (.mov cF)])
.ret)
.skip)))
(kr [0,3,4] [oM 20 4,
oB 21 .add 20 (cI 1),
oM 4 21]))))))))
(kr [0,3] [oM 9 3,
oB 10 .add 9 (cI 1),
oM 3 10]))))))
(sq (kr [] [oD 2 (.mov cT)])
.ret)))
def uK_:List RD:=[.tmp 2 true none]
theorem u0_:zn_ Tryz.prog Tryz.f11 Ut_ uK_=true:=by kernel_rfl
def we_:List AV->List Obj->Option (Prop × AV)
 | [.imm (.cons (.int .i64) (.cons (.int .i64) (.cons .bool (.cons (.int .u64) (.cons (.sl (.int .u8)) (.cons (.sl (.int .u8)) .nil)))))) l],[]=>some ((okM l,.bool (onF l)))
 | _,_=>none
theorem Va_:zf_ Tryz.prog 11 (RoF we_).sum:=by
 refine zi_ Tryz.func11 u0_ (zb_ (s:=RoF j7_) y9_ (zb_ (s:=RoF Kn_) JB_ (ze_ _))) fun args objs p v e=>?_
 unfold we_ at e
 split at e
 ·rename_i l
  cases e
  refine ⟨rfl,fun hw ho hp=>?_⟩
  change List OV at l
  clear hw ho
  have ha:=hp.a
  have hn:=hp.n
  repeat'(intro t ht;first|(cases t<;>first|(cases ht;done)|(try simp only[zg_]at ht;try(exfalso;first|contradiction|omega)))|((first|refine za_ ht ?_|refine ht ?_ ?_|refine ht.1 ?_ ?_|refine ht ?_)<;>clear ht))
  all_goals first
   | exact True.intro
   | (intro r h1 h2;clear h1;refine h2 ⟨[0,3],Nat,(fun i=>i<=l.length/\(List.range i).all (onA l)=true),fun i=>[.imm Y1 l,.int .i64 i],fun _=>[],fun i=>l.length - i,⟨0,⟨Nat.zero_le _,rfl⟩,rfl,rfl⟩,?_⟩;clear h2)
  rintro i ⟨hi,hJ⟩
  have e1:=fun h=>zau_ (l:=l) (i:=i) h
  have hL:=fun h:i < l.length=>ha.h _ (Zj_ h odO)
  repeat'(intro t ht;first|(cases t<;>first|(cases ht;done)|(try simp only[zg_]at ht;try(exfalso;first|contradiction|omega)))|((first|refine za_ ht ?_|refine ht ?_ ?_|refine ht.1 ?_ ?_|refine ht ?_)<;>clear ht))
  all_goals first
   | exact True.intro
   | omega
   | ((try dsimp only);simp only [zm_];omega)
   | exact (hL (by omega)).2
   | exact ⟨congrArg AV.bool (e1 (by omega) ht).symm,rfl⟩
   | (have e:i=l.length:=by omega
      refine ⟨congrArg AV.bool ?_,rfl⟩
      rw [e] at hJ;exact hJ.symm)
   | (intro r h1 h2;clear h1;refine h2 ⟨[0,3,4],Nat,(fun k=>k<=i/\(List.range k).all (onI l i)=true),fun k=>[.imm Y1 l,.int .i64 i,.int .i64 k],fun _=>[],fun k=>i - k,⟨0,⟨Nat.zero_le _,rfl⟩,rfl,rfl⟩,?_⟩;clear h2)
  rintro k ⟨hk,hK⟩
  have e2:=fun h1 h2=>zat_ (l:=l) (i:=i) (k:=k) h1 h2
  have e3:rfO (l.getD i odO)=true->k=i->(List.range (i+1)).all (onA l)=true:=fun h e=>Bb_ hJ h (by rw [<- e];rw [<- e] at hK;exact hK)
  have e4:=fun h=>KH_ (g:=onI l i) (i:=k) hK h
  repeat'(intro t ht;first|(cases t<;>first|(cases ht;done)|(try simp only[zg_]at ht;try(exfalso;first|contradiction|omega)))|((first|refine za_ ht ?_|refine ht ?_ ?_|refine ht.1 ?_ ?_|refine ht ?_)<;>clear ht))
  all_goals first
   | exact True.intro
   | omega
   | ((try dsimp only);simp only [zm_];omega)
   | exact ⟨i+1,⟨by omega,e3 (by assumption) (by omega)⟩,by dsimp only;omega,rfl,rfl⟩
   | exact ⟨k+1,⟨by omega,e4 (by unfold onI;rw [show alO (l.getD i odO) (l.getD k odO)=false from B6_ ht];rfl)⟩,by dsimp only;omega,rfl,rfl⟩
   | exact ⟨congrArg AV.bool (e2 (by omega) (by omega) (UX_ ht)).symm,rfl⟩
 ·cases e
theorem Bm_ {a b:List OV} (h:Zq_ a b=false):qN_ a b=[]:=by unfold qN_;rw [h];rfl
theorem wN_ {a b:List OV} (h:Zq_ a b=true):qN_ a b=isG ltO (mrg a b)/\Z0_ a b=false/\rgM (qN_ a b)=true:=by
 have e:qN_ a b=isG ltO (mrg a b):=by unfold qN_;rw [h];rfl
 rw [e]
 unfold Zq_ at h
 simp only [Bool.and_eq_true,Bool.not_eq_true'] at h
 exact ⟨rfl,h.1.2,h.2⟩
theorem Bl_ {a b:List OV} (ha:Mt a) (hb:Mt b) (h:Zq_ a b=true):Zq_ b a=true/\qN_ b a=qN_ a b:=by
 obtain ⟨h1,h2,h3⟩:=wN_ h
 have e:=HC_ ha hb h2
 have h4:Zq_ b a=true:=by
  unfold Zq_ at h ⊢
  simp only [Bool.and_eq_true,Bool.not_eq_true'] at h ⊢
  refine ⟨⟨⟨h.1.1.2,h.1.1.1⟩,?_⟩,?_⟩
  ·rw [g8_ hb.by' ha.by'];exact h2
  ·rw [e];exact h.2
 exact ⟨h4,by rw [(wN_ h4).1,h1,e]⟩
theorem HH_ {a b:List OV} (ha:kN_ a=true) (hb:kN_ b=true) (ba:∀ o ∈ a,zT_ o) (bb:∀ o ∈ b,zT_ o):okM a/\okM b/\a.length<=60/\b.length<=60/\(∀ o ∈ a,zT_ o)/\(∀ o ∈ b,zT_ o):=⟨(Qx_ ha).1,(Qx_ hb).1,(Qx_ ha).2,(Qx_ hb).2,ba,bb⟩
theorem Gz_ {a b:List OV} (ra:rgM a=true) (rb:rgM b=true) (ba:∀ o ∈ a,zT_ o) (bb:∀ o ∈ b,zT_ o) (fa:kN_ a=true) (fb:kN_ b=true) (h:Zq_ a b=true):okM (qN_ a b):=by
 rw [(wN_ h).1]
 have hA:=GE_ ra rb ba bb
 refine ⟨HV_ hA,?_⟩
 rw [(wQ_ _).length_eq]
 unfold mrg
 have h1:=(Qx_ fa).2
 have h2:=(Qx_ fb).2
 have h3:=List.length_filter_le (fun y=>!a.any fun x=>alO x y) b
 rw [List.length_append,List.length_map];omega
structure Whole (a b p:List OV):Prop where
 w1:ZJ_ a b=true->Ze_ a p=true->Ze_ b p=true
 w2:Z0_ a b=true->Ze_ a p=true->Ze_ b p=true->False
 w3:ZJ_ a a=true
 w4:Zq_ a b=true->rgM (qN_ a b)=true/\Ze_ (qN_ a b) p=(Ze_ a p && Ze_ b p)/\ZJ_ (qN_ a b) a=true/\ZJ_ (qN_ a b) b=true/\Zq_ b a=true/\qN_ b a=qN_ a b
 w5:Zq_ a b=false->qN_ a b=[]
theorem hX_ {a b p:List OV} (ba:∀ o ∈ a,zT_ o) (bb:∀ o ∈ b,zT_ o) (bp:∀ o ∈ p,zT_ o) (ra:rgM a=true) (rb:rgM b=true) (hp:onF p=true):Whole a b p:=by
 have P:=zas_ bp hp
 have ma:=X6_ ra ba
 have mb:=X6_ rb bb
 refine ⟨fun h1 h2=>vU_ ba bb bp h1 h2,fun h1 h2 h3=>?_,GY_ ba,fun h=>?_,fun h=>Bm_ h⟩
 ·rw [UW_ ba bb P h2 h3] at h1;cases h1
 ·obtain ⟨e1,e2,e3⟩:=wN_ h
  obtain ⟨e4,e5⟩:=Bl_ ma mb h
  refine ⟨e3,?_,?_,?_,e4,e5⟩
  ·rw [e1];exact gD_ ma mb P e2
  ·rw [e1];exact (xd_ ma mb e2).1
  ·rw [e1];exact (xd_ ma mb e2).2
def wR_:IR:=
(sq (kr [0,1,2] [oD 6 (.mov cF)])
(sq (sq (kr [0,1,2] [oM 13 0,
oC 14 5 [13],
oD 15 (.un .not 14),
oM 16 15,
oF 16 17 (.mov 1),
oF 16 18 (.call false (.f 5) [17]),
oF 16 19 (.un .not 18),
oP 20 16 cT 19,
oM 21 20,
oF 21 22 (.mov 2),
oF 21 23 (.call false (.f 5) [22]),
oF 21 24 (.un .not 23),
oP 25 21 cT 24,
oM 26 25,
oF 26 27 (.mov 0),
oF 26 28 (.call false (.f 10) [27]),
oF 26 29 (.un .not 28),
oP 30 26 cT 29,
oM 31 30,
oF 31 32 (.mov 1),
oF 31 33 (.call false (.f 10) [32]),
oF 31 34 (.un .not 33),
oP 35 31 cT 34,
oM 36 35,
oF 36 37 (.mov 2),
oF 36 38 (.call false (.f 11) [37]),
oF 36 39 (.un .not 38),
oP 40 36 cT 39])
(.cond 40
(sq (kr [] [oC 41 6 [],
oM 6 41])
.ret)
.skip))
(sq (kr [0,1,2] [oM 42 0,
oM 43 2,
oC 44 12 [42,43],
oM 45 1,
oM 46 2,
oC 47 12 [45,46],
oM 7 44,
oM 8 47])
(sq (sq (kr [0,1,2,7,8] [oM 48 0,
oM 49 1,
oC 50 13 [48,49],
oM 51 50,
oT 51 52 (.mov 7),
oP 53 51 52 cF,
oM 54 53,
oT 54 55 (.mov 8),
oT 54 56 (.un .not 55),
oP 57 54 56 cF,
oM 58 57,
oF 58 59 (.mov 0),
oF 58 60 (.mov 1),
oF 58 61 (.call false (.f 14) [59,60]),
oF 58 62 (.mov 61),
oT 62 63 (.mov 7),
oF 58 64 (.pick 62 63 cF),
oF 58 65 (.mov 64),
oT 65 66 (.mov 8),
oF 58 67 (.pick 65 66 cF),
oP 68 58 cT 67,
oM 69 68,
oF 69 70 (.mov 0),
oF 69 71 (.mov 0),
oF 69 72 (.call false (.f 13) [70,71]),
oF 69 73 (.un .not 72),
oP 74 69 cT 73,
oM 75 74,
oF 75 76 (.mov 0),
oF 75 77 (.call false (.f 13) [76,(.c (.imm Y1 []))]),
oF 75 78 (.un .not 77),
oP 79 75 cT 78])
(.cond 79
(sq (kr [] [oD 6 (.mov cF)])
.ret)
.skip))
(sq (kr [0,1,2,7,8] [oM 81 0,
oM 82 1,
oC 83 7 [81,82],
oM 80 83,
oX 84 80 0,
oX 85 80 1,
oM 9 84,
oM 10 85])
(sq (sq (kr [0,1,2,7,8,9,10] [oM 86 10,
oD 87 (.un .not 86)])
(.cond 87
(sq (kr [9] [oM 88 9,
oE 89 88,
oB 90 .eql 89 (cI 0),
oM 91 90,
oT 91 92 (.call false (.f 6) []),
oP 93 91 92 cF,
oM 6 93])
.ret)
.skip))
(sq (kr [0,1,2,7,8,9] [oM 95 1,
oM 96 0,
oC 97 7 [95,96],
oM 94 97,
oX 98 94 0,
oX 99 94 1,
oM 11 98,
oM 12 99])
(sq (kr [0,1,2,7,8,9,11,12] [oM 100 9,
oC 101 10 [100],
oM 102 101,
oT 102 103 (.mov 9),
oT 102 104 (.mov 2),
oT 102 105 (.call false (.f 12) [103,104]),
oT 102 106 (.mov 7),
oT 102 107 (.mov 106),
oT 107 108 (.mov 8),
oT 102 109 (.pick 107 108 cF),
oT 102 110 (.eqb false 105 109),
oP 111 102 110 cF,
oM 112 111,
oT 112 113 (.mov 9),
oT 112 114 (.mov 0),
oT 112 115 (.call false (.f 13) [113,114]),
oP 116 112 115 cF,
oM 117 116,
oT 117 118 (.mov 9),
oT 117 119 (.mov 1),
oT 117 120 (.call false (.f 13) [118,119]),
oP 121 117 120 cF,
oM 122 121,
oT 122 123 (.mov 12),
oP 124 122 123 cF,
oM 125 124,
oT 125 126 (.mov 9),
oT 125 127 (.mov 11),
oT 125 128 (.call false (.f 15) [126,127]),
oP 129 125 128 cF,
oM 130 129,
oT 130 131 (.call false (.f 6) []),
oP 132 130 131 cF,
oM 6 132])
.ret))))))))
def wt_:List RD:=[.tmp 6 true none]
theorem wC_:zn_ Tryz.prog Tryz.f4 wR_ wt_=true:=by kernel_rfl
def Q5_:List AV->List Obj->Option (Prop × AV)
 | [.imm (.cons (.int .i64) (.cons (.int .i64) (.cons .bool (.cons (.int .u64) (.cons (.sl (.int .u8)) (.cons (.sl (.int .u8)) .nil)))))) a,.imm (.cons (.int .i64) (.cons (.int .i64) (.cons .bool (.cons (.int .u64) (.cons (.sl (.int .u8)) (.cons (.sl (.int .u8)) .nil)))))) b,.imm (.cons (.int .i64) (.cons (.int .i64) (.cons .bool (.cons (.int .u64) (.cons (.sl (.int .u8)) (.cons (.sl (.int .u8)) .nil)))))) p],[]=>some ((True,.bool true))
 | _,_=>none
theorem JJ_:zf_ Tryz.prog 4 (RoF Q5_).sum:=by
 refine zi_ Tryz.func4 wC_ (zb_ (s:=RoF WV_) ur_ (zb_ (s:=RoF kd_) jq_ (zb_ (s:=RoF we_) Va_ (zb_ (s:=RoF wd_) v9_ (zb_ (s:=RoF ke_) jr_ (zb_ (s:=RoF QE_) KA_ (zb_ (s:=RoF qT_) kw_ (zb_ (s:=RoF kP_) jG_ (zb_ (s:=RoF jh_) Xl_ (ze_ _)))))))))) fun args objs p v e=>?_
 unfold Q5_ at e
 split at e
 ·rename_i a b p
  cases e
  refine ⟨rfl,fun hw ho hp=>?_⟩
  change List OV at a
  change List OV at b
  change List OV at p
  have ba:=gp_ (hw (.imm Y1 a) (by simp))
  have bb:=gp_ (hw (.imm Y1 b) (by simp))
  have bp:=gp_ (hw (.imm Y1 p) (by simp))
  clear hw ho
  repeat'(intro t ht;first|(cases t<;>first|(cases ht;done)|(try simp only[zg_]at ht;try(exfalso;first|contradiction|omega)))|((first|refine za_ ht ?_|refine ht ?_ ?_|refine ht.1 ?_ ?_|refine ht ?_)<;>clear ht))
  all_goals first
   | exact True.intro
   | exact ⟨rfl,by first | rfl | exact True.intro⟩
   | exact HH_ ‹kN_ a=true› ‹kN_ b=true› ba bb
   | exact HH_ ‹kN_ b=true› ‹kN_ a=true› bb ba
   | exact (Qx_ ‹kN_ a=true›).1
   | exact (Qx_ ‹kN_ b=true›).1
   | exact (Qx_ ‹kN_ p=true›).1
   | exact (Qx_ ‹kN_ a=true›).1.a
   | exact (Qx_ ‹kN_ b=true›).1.a
   | exact (Qx_ ‹kN_ p=true›).1.a
   | exact Gz_ ‹rgM a=true› ‹rgM b=true› ba bb ‹kN_ a=true› ‹kN_ b=true› ‹Zq_ a b=true›
   | exact (Gz_ ‹rgM a=true› ‹rgM b=true› ba bb ‹kN_ a=true› ‹kN_ b=true› ‹Zq_ a b=true›).a
   | (have W:=hX_ ba bb bp ‹rgM a=true› ‹rgM b=true› ‹onF p=true›
      exfalso
      first
       | exact absurd (W.w1 ‹_› ‹_›) (by rw [ht];decide)
       | exact W.w2 ‹_› ‹_› ‹_›
       | exact absurd W.w3 (by rw [ht];decide)
       | exact absurd (U5_ a) (by rw [ht];decide)
       | exact absurd (W.w4 ‹_›).1 (by rw [ht];decide)
       | exact absurd (W.w4 ‹_›).2.2.1 (by rw [ht];decide)
       | exact absurd (W.w4 ‹_›).2.2.2.1 (by rw [ht];decide)
       | exact absurd (W.w4 ‹_›).2.2.2.2.1 (by rw [ht];decide)
       | exact ht (W.w4 ‹_›).2.2.2.2.2.symm
       | (rw [W.w5 ‹_›] at ht;exact ht rfl)
       | (have e:=(W.w4 ‹_›).2.1
          rw [e] at ht
          revert ht
          first
           | (rw [‹Ze_ a p=false›];cases Ze_ b p<;>decide)
           | (rw [‹Ze_ a p=true›];cases Ze_ b p<;>decide))
       | fail)
 ·cases e
end Go.Eng
