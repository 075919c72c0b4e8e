/- Parts of the proof: H3, H4, HA, HB, H7, HC, S2, S3, S4, HD. No condition. -/
import Derived.Test.YtodnkagabgglfaaGreatDoorProg
import Derived.Test.YtodnkagabgglfaaGreatDoorWA10
import Derived.KernelRfl
import Derived.Test.YtodnkagabgglfaaGreatDoorWA17
namespace Go.Eng
open Go.Proofs
set_option linter.unusedVariables false
set_option linter.unusedSimpArgs false
set_option maxRecDepth 100000
set_option maxHeartbeats 1000000
def vA (y:List Int):AC:=(tT y,acA y 0,acA y 1,(acS y (zp_ (bd y)),acS y (zt_ (bd y)),acH y,acS y (qp_ (bd y)),acV y (Zg_ (bd y)),acV y (Zh_ (bd y)),()),acD y,())
def alG (acc:List AC) (y:List Int):List AC × Int:=
 if y.length=0 then (acc,0) else if acc.length=64 then ([],520) else if ¬ acE y=0 then ([],acE y) else alG (acc++[vA y]) (y.drop (max 1 (tN y).toNat))
termination_by y.length
decreasing_by all_goals (rw [List.length_drop];omega)
theorem wC_ {acc:List AC} {y:List Int} (h:y.length=0):alG acc y=(acc,0):=by rw [alG,if_pos h]
theorem vl_ {acc:List AC} {y:List Int} (h:¬ y.length=0) (h1:acc.length=64):alG acc y=([],520):=by rw [alG,if_neg h,if_pos h1]
theorem yD_ {acc:List AC} {y:List Int} (h:¬ y.length=0) (h1:¬ acc.length=64) (h2:¬ acE y=0):alG acc y=([],acE y):=by rw [alG,if_neg h,if_neg h1,if_pos h2]
theorem vk_ {acc:List AC} {y:List Int} (h:¬ y.length=0) (h1:¬ acc.length=64) (h2:acE y=0) (hn:1<=tN y):alG acc y=alG (acc++[vA y]) (y.drop (tN y).toNat):=by
 rw [alG,if_neg h,if_neg h1,if_neg (not_not_intro h2),show max 1 (tN y).toNat=(tN y).toNat by omega]
theorem gq_ {b:List Int} (h0:acE b=0):8<=tN b/\tN b<=b.length/\(tN b).tmod 8=0:=by
 have hT:tlE b 8 8 514=0:=Classical.byContradiction fun h=>by
  unfold acE at h0;rw [if_pos h] at h0;exact h h0
 unfold tlE at hT
 by_cases h1:b.length < 4
 ·rw [if_pos h1] at hT;cases hT
 ·rw [if_neg h1] at hT
  by_cases h2:tN b < 8\/¬ (tN b).tmod 8=0
  ·rw [if_pos h2] at hT;cases hT
  ·rw [if_neg h2] at hT
   by_cases h3:(b.length:Int) < tN b
   ·rw [if_pos h3] at hT;cases hT
   ·omega
def adE (b:List Int):Int:=if ¬ (alG [] b).2=0 then (alG [] b).2 else if 65528 < b.length then 514 else 0
def adL (b:List Int):List AC:=if adE b=0 then (alG [] b).1 else []
theorem vn_ {b:List Int} {e:Int} (h:(alG [] b).2=e) (h0:¬ e=0):adL b=[]/\adE b=e:=by
 have:adE b=e:=by unfold adE;rw [h,if_pos h0]
 exact ⟨by unfold adL;rw [this,if_neg h0],this⟩
theorem Wv_ {b:List Int} {acc:List AC} (h:alG [] b=(acc,0)):(65528 < b.length->adL b=[]/\adE b=514)/\(¬ 65528 < b.length->adL b=acc/\adE b=0):=by
 have e:adE b=if 65528 < b.length then 514 else 0:=by unfold adE;rw [h];rfl
 constructor
 ·intro hl
  rw [if_pos hl] at e
  exact ⟨by unfold adL;rw [e];rfl,e⟩
 ·intro hl
  rw [if_neg hl] at e
  exact ⟨by unfold adL;rw [e,h];rfl,e⟩
def U2_:IR:=
(sq (kr [0] [oD 1 (.boxv 0),
oD 2 (.mov (.c (.undef)))])
(sq (.reg [oD 3 (.mkfn 61 [] [1]),
oM 2 3])
.ret))
def Ue_:List RD:=[.tmp 2 true none]
theorem UD_:zn_ Tryz.prog Tryz.f39 U2_ Ue_=true:=by kernel_rfl
def wh_:List AV->List Obj->Option (Prop × AV × List Obj)
 | [.imm (.int .u8) b],[]=>some ((True,.fn 61 [] [.ptr 0 0],[.box [.imm (.int .u8) b]]))
 | _,_=>none
theorem vC_:ze_ Tryz.prog 39 (RwF wh_).sum:=by
 refine qS_ Tryz.func39 UD_ (zd_ _) fun args objs p v o e=>?_
 unfold wh_ at e
 split at e
 ·rename_i b
  cases e
  refine ⟨rfl,fun hw ho hp=>?_⟩
  change List Int at b
  repeat'(intro t ht;first|(cases t<;>first|(cases ht;done)|(try simp only[zh_]at ht;try(exfalso;first|contradiction|omega)))|((first|refine za_ ht ?_|refine ht ?_ ?_|refine ht.1 ?_ ?_|refine ht ?_)<;>clear ht))
  all_goals first
   | exact True.intro
   | exact ⟨rfl,rfl⟩
 ·cases e
def YL_:IR:=
(sq (kr [0] [oD 2 (.box [.nils]),
oD 3 (.box [.int .i64 0])])
(sq (.reg [oD 4 (.box [.nils])])
(sq (sq (.reg [oM 7 0,
oC 8 39 [7]])
(.block 0
(.rng 8 [9,10] [0,2,3,4] 61
(sq (kr [2,3,4,9,10] [oD 5 (.box [.int .i64 0,.int .u64 0,.int .u64 0,.int .i64 0,.int .i64 0,.kb false,.int .u64 0,.nils,.nils,.nils]),
oS 10 5 9])
(.reg [oM 6 10]))
(.block 1
(sq (sq (kr [2,3,4,5,6] [oM 11 6,
oB 12 .neq 11 (cI 0)])
(.cond 12
(sq (.reg [oM 13 6,
oN (.store 1 2 (.c (.nils))),
oS 1 3 13])
.ret)
.skip))
(.reg [oL 14 4,
oK 15 10 5,
oD 16 (.sliceAll Y2 1 [(0,10,15)]),
oD 17 (.append Y2 128 14 16),
oS 1 4 17])))
(sq (kr [0,1] [oD 3 (.mov (cI 0))])
(.block 0
(.loop
(sq (sq (kr [0,1,3] [oL 7 1,
oE 8 7,
oB 9 .gtr 8 (cI 0)])
(.cond 9
.skip
(.exit 0)))
(sq (.block 1
(sq (sq (.reg [oM 12 3,
oB 13 .eql 12 (cI 64)])
(.cond 13
(sq (.keep [0]
(.yld [oM 14 0,
oD 15 (.build [.int .i64 0,.int .u64 0,.int .u64 0,.int .i64 0,.int .i64 0,.kb false,.int .u64 0,.imm (.int .u8) [],.imm (.int .u8) [],.imm (.int .u8) []] [])] (some 16) (.t 14) [(.t 15),(.c (.int .i64 520))] [] []))
.ret)
.skip))
(sq (kr [0,1,3] [oL 18 1,
oC 19 62 [18],
oM 17 19,
oX 20 17 0,
oX 21 17 1,
oX 22 17 2,
oD 4 (.box [.int .i64 0,.int .u64 0,.int .u64 0,.int .i64 0,.int .i64 0,.kb false,.int .u64 0,.imm (.int .u8) [],.imm (.int .u8) [],.imm (.int .u8) []]),
oS 10 4 20,
oM 5 21,
oM 6 22])
(sq (sq (.keep [0,1,3,4,5,6]
(.yld [oM 23 0,
oK 24 10 4,
oM 25 6] (some 26) (.t 23) [(.t 24),(.t 25)] [0,1,3,5,6] [oD 27 (.un .not 26),
oM 28 27,
oF 28 29 (.mov 6),
oF 28 30 (.bin .neq 29 (cI 0)),
oP 31 28 cT 30]))
(.cond 31
.ret
.skip))
(kr [0,1,3,5] [oL 32 1,
oM 33 5,
oD 34 (.slice 1 32 (some 33) none none),
oS 1 1 34])))))
(kr [0,1,3] [oM 10 3,
oB 11 .add 10 (cI 1),
oM 3 11])))))))))
(sq (sq (kr [0,2,3,4] [oM 18 0,
oE 19 18,
oB 20 .gtr 19 (cI 65528)])
(.cond 20
(sq (.reg [oN (.store 1 2 (.c (.nils))),
oN (.store 1 3 (cI 514))])
.ret)
.skip))
(sq (.reg [oL 21 4,
oS 1 2 21,
oN (.store 1 3 (cI 0))])
.ret)))))
def y9_:List RD:=[.cell 2 none true [(some Y2)],.cell 3 none true []]
theorem Ys_:zn_ Tryz.prog Tryz.f21 YL_ y9_=true:=by kernel_rfl
def qa_:List AV->List Obj->Option (Prop × AV)
 | [.imm (.int .u8) b],[]=>some ((b.length<=100000000,.tup [.imm Y2 (adL b),.int .i64 (adE b)]))
 | _,_=>none
theorem qY_:ze_ Tryz.prog 21 (RoF qa_).sum:=by
 refine zm_ Tryz.func21 Ys_ (zb_ (s:=RoF kj_) WX_ (zb_ (s:=RwF wh_) vC_ (zd_ _))) fun args objs p v e=>?_
 unfold qa_ at e
 split at e
 ·rename_i b
  cases e
  refine ⟨rfl,fun hw ho hp=>?_⟩
  change List Int at b
  clear hw ho
  repeat'(intro t ht;first|(cases t<;>first|(cases ht;done)|(try simp only[zh_]at ht;try(exfalso;first|contradiction|omega)))|((first|refine za_ ht ?_|refine ht ?_ ?_|refine ht.1 ?_ ?_|refine ht ?_)<;>clear ht))
  all_goals first
   | exact True.intro
   | (refine .inl fun lr ln=>?_)
  repeat'(intro t ht;first|(cases t<;>first|(cases ht;done)|(try simp only[zh_]at ht;try(exfalso;first|contradiction|omega)))|((first|refine za_ ht ?_|refine ht ?_ ?_|refine ht.1 ?_ ?_|refine ht ?_)<;>clear ht))
  all_goals first
   | exact True.intro
   | (intro r h1 h2;clear h1;refine h2 ⟨[0,1,3],Option (List AC × List Int),(fun a=>match a with | none=>True | some a=>a.1.length<=64/\a.2.length<=b.length/\alG [] b=alG a.1 a.2),(fun a=>match a with | none=>[.yv ln,.ptr 0 0,.int .i64 0] | some a=>[.yv ln,.ptr 0 0,.int .i64 a.1.length]),(fun a=>match a with | none=>[.box [.imm (.int .u8) b],.box [.nils],.box [.int .i64 0],.box [.nils],.lrec lr 0] | some a=>[.box [.imm (.int .u8) a.2],.box [.nils],.box [.int .i64 0],.box [.own 5],.lrec lr 0,.row false Y2 a.1]),(fun a=>match a with | none=>b.length+1 | some a=>a.2.length),⟨none,True.intro,rfl,rfl⟩,?_⟩;clear h2)
  rintro (_ | ⟨acc,y⟩) hJ
  ·clear hJ
   repeat'(intro t ht;first|(cases t<;>first|(cases ht;done)|(try simp only[zh_]at ht;try(exfalso;first|contradiction|omega)))|((first|refine za_ ht ?_|refine ht ?_ ?_|refine ht.1 ?_ ?_|refine ht ?_)<;>clear ht))
   all_goals (try dsimp only at*)
   all_goals first
    | exact True.intro
    | ((try simp only [zk_,zl_,zi_] at*);omega)
    | exact ⟨rfl,rfl⟩
    | (have hg:=wC_ (acc:=[]) (y:=b) (by omega)
       rw [((Wv_ hg).2 (by omega)).1,((Wv_ hg).2 (by omega)).2];exact ⟨rfl,rfl⟩)
    | (simp only [zA_,List.length_cons,List.length_nil];constructor<;>omega)
    | (have h0:acE b=0:=by assumption
       obtain ⟨g1,g2,_⟩:=gq_ h0
       have e1:∀ x,acI b x=x:=fun x=>if_pos h0
       first
        | (rw [e1];constructor<;>omega)
        | (have hm:=vk_ (acc:=[]) (by omega) (by decide) h0 (by omega)
           refine ⟨some ([]++[vA b],b.drop (tN b).toNat),⟨by simp,?_,hm⟩,?_,rfl,?_⟩
           ·dsimp only;rw [List.length_drop];omega
           ·dsimp only;rw [List.length_drop];omega
           ·dsimp only;rw [e1,e1];rfl))
    | (have h0:¬ acE b=0:=by assumption
       have hm:=yD_ (acc:=[]) (by omega) (by decide) h0
       obtain ⟨d1,d2⟩:=vn_ (b:=b) (e:=acE b) (by rw [hm]) h0
       rw [d1,d2];exact ⟨rfl,rfl⟩)
  ·obtain ⟨j1,j2,j3⟩:=hJ
   dsimp only at j1 j2 j3
   repeat'(intro t ht;first|(cases t<;>first|(cases ht;done)|(try simp only[zh_]at ht;try(exfalso;first|contradiction|omega)))|((first|refine za_ ht ?_|refine ht ?_ ?_|refine ht.1 ?_ ?_|refine ht ?_)<;>clear ht))
   all_goals (try dsimp only at*)
   all_goals first
    | exact True.intro
    | ((try simp only [zk_,zl_,zi_] at*);omega)
    | exact ⟨rfl,rfl⟩
    | (have hg:=wC_ (acc:=acc) (y:=y) (by omega)
       rw [<- j3] at hg
       first
        | (obtain ⟨d1,d2⟩:=(Wv_ hg).1 (by omega)
           rw [d1,d2];exact ⟨rfl,rfl⟩)
        | (obtain ⟨d1,d2⟩:=(Wv_ hg).2 (by omega)
           rw [d1,d2];exact ⟨rfl,rfl⟩))
    | (simp only [zA_,List.length_cons,List.length_nil];constructor<;>omega)
    | (have hm:=vl_ (acc:=acc) (y:=y) (by omega) (by omega)
       rw [<- j3] at hm
       obtain ⟨d1,d2⟩:=vn_ (b:=b) (e:=520) (by rw [hm]) (by decide)
       rw [d1,d2];exact ⟨rfl,rfl⟩)
    | (have h0:acE y=0:=by assumption
       obtain ⟨g1,g2,_⟩:=gq_ h0
       have e1:∀ x,acI y x=x:=fun x=>if_pos h0
       first
        | (rw [e1];constructor<;>omega)
        | (have hm:=vk_ (acc:=acc) (by omega) (by omega) h0 (by omega)
           refine ⟨some (acc++[vA y],y.drop (tN y).toNat),⟨?_,?_,j3.trans hm⟩,?_,?_,?_⟩
           ·simp only [List.length_append,List.length_cons,List.length_nil];omega
           ·dsimp only;rw [List.length_drop];omega
           ·dsimp only;rw [List.length_drop];omega
           ·dsimp only;rw [List.length_append];rfl
           ·dsimp only;rw [e1,e1];rfl))
    | (have h0:¬ acE y=0:=by assumption
       have hm:=yD_ (acc:=acc) (y:=y) (by omega) (by omega) h0
       rw [<- j3] at hm
       obtain ⟨d1,d2⟩:=vn_ (b:=b) (e:=acE y) (by rw [hm]) h0
       rw [d1,d2];exact ⟨rfl,rfl⟩)
 ·cases e
def smA (a b:AC):Bool:=XH_ a.1 a.2.1 a.2.2.1 a.2.2.2.1.1 a.2.2.2.1.2.1 a.2.2.2.1.2.2.1 a.2.2.2.1.2.2.2.1 a.2.2.2.1.2.2.2.2.1 a.2.2.2.1.2.2.2.2.2.1 a.2.2.2.2.1 b.1 b.2.1 b.2.2.1 b.2.2.2.1.1 b.2.2.2.1.2.1 b.2.2.2.1.2.2.1 b.2.2.2.1.2.2.2.1 b.2.2.2.1.2.2.2.2.1 b.2.2.2.1.2.2.2.2.2.1 b.2.2.2.2.1
theorem zcM_ {a b:AC} (h:smA a b=true):a=b:=by
 obtain ⟨a1,a2,a3,⟨a4,a5,a6,a7,a8,a9,_⟩,a10,_⟩:=a
 obtain ⟨b1,b2,b3,⟨b4,b5,b6,b7,b8,b9,_⟩,b10,_⟩:=b
 unfold smA XH_ Qx_ at h
 simp only [Bool.and_eq_true,decide_eq_true_eq,beq_iff_eq] at h
 obtain ⟨⟨⟨⟨h1,h2⟩,h3⟩,⟨⟨⟨⟨⟨h4,h5⟩,h7⟩,h6⟩,h8⟩,h9⟩⟩,h10⟩:=h
 rw [h1,h2,h3,h4,h5,h6,h7,h8,h9,h10]
theorem zcN_ {a b:AC} (h:smA a b=false):¬ a=b:=fun e=>by
 rw [e] at h;unfold smA at h;rw [hV_] at h;cases h
def GQ_:IR:=
(sq (kr [0,1] [oD 4 (.mov cF)])
(sq (sq (kr [0,1] [oM 6 0,
oE 7 6,
oM 8 1,
oE 9 8,
oB 10 .neq 7 9])
(.cond 10
(sq (.reg [oD 4 (.mov cF)])
.ret)
.skip))
(sq (sq (kr [0,1] [oD 5 (.mov (cI 0))])
(.block 0
(.loop
(sq (sq (kr [0,1,5] [oM 11 5,
oM 12 0,
oE 13 12,
oB 14 .lss 11 13])
(.cond 14
.skip
(.exit 0)))
(sq (.block 1
(sq (kd [0,1,5] [(oM 17 0,[]),
(oM 18 5,[0]),
(oI 19 10 17 18,[]),
(oK 20 10 19,[]),
(oM 21 1,[0,0,0,0]),
(oM 22 5,[0,0,0,0,0]),
(oI 23 10 21 22,[2,0,0,0]),
(oK 24 10 23,[3,0,0,0]),
(oC 25 41 [20,24],[]),
(oD 26 (.un .not 25),[])])
(.cond 26
(sq (kr [] [oD 4 (.mov cF)])
.ret)
.skip)))
(kr [0,1,5] [oM 15 5,
oB 16 .add 15 (cI 1),
oM 5 16]))))))
(sq (kr [] [oD 4 (.mov cT)])
.ret))))
def gX_:List RD:=[.tmp 4 true none]
theorem Gj_:zn_ Tryz.prog Tryz.f23 GQ_ gX_=true:=by kernel_rfl
def jl_:List AV->List Obj->Option (Prop × AV)
 | [.imm ty0 a,.imm ty1 b],[]=>Qi_ ty0 Y2 a fun a=>Qi_ ty1 Y2 b fun b=>some ((True,.bool (decide ((a:List AC)=b))))
 | _,_=>none
theorem WQ_:ze_ Tryz.prog 23 (RoF jl_).sum:=by
 refine zm_ Tryz.func23 Gj_ (zb_ (s:=RoF Wx_) uL_ (zd_ _)) fun args objs p v e=>?_
 unfold jl_ at e
 split at e
 ·rename_i ty0 a ty1 b
  obtain rfl:=ZR_ e
  replace e:=ZS_ e
  obtain rfl:=ZR_ e
  replace e:=ZS_ e
  cases e
  refine ⟨rfl,fun hw ho hp=>?_⟩
  change List AC at a
  change List AC at b
  have hl:a.length<=maxLen:=(hw (.imm Y2 a) (by simp)).2
  unfold maxLen at hl
  clear hw ho
  repeat'(intro t ht;first|(cases t<;>first|(cases ht;done)|(try simp only[zh_]at ht))|((first|refine za_ ht ?_|refine ht ?_ ?_|refine ht.1 ?_ ?_|refine ht ?_)<;>clear ht))
  all_goals first
   | (have hne:a ≠ b:=fun h=>(by assumption:¬ (a.length:Int)=b.length) (by rw [h])
      refine ⟨?_,rfl⟩;rw [decide_eq_false hne];done)
   | (intro r h1 h2;clear h1;refine h2 ⟨[0,1,5],Nat,(fun i=>i<=a.length/\a.take i=b.take i),fun i=>[.imm Y2 a,.imm Y2 b,.int .i64 i],fun _=>[],fun i=>a.length - i,⟨0,⟨Nat.zero_le _,rfl⟩,rfl,rfl⟩,?_⟩;clear h2)
  rintro i ⟨hi,he⟩
  have hl2:a.length=b.length:=by omega
  repeat'(intro t ht;first|(cases t<;>first|(cases ht;done)|(try simp only[zh_]at ht;try(exfalso;first|contradiction|omega)))|((first|refine za_ ht ?_|refine ht ?_ ?_|refine ht.1 ?_ ?_|refine ht ?_)<;>clear ht))
  all_goals (try generalize (Ty.dflt Y2)=od at*)
  all_goals first
   | exact True.intro
   | ((try simp only [zk_,zl_,zi_] at*);omega)
   | (have e:=bm_ he (by omega) hl2
      refine ⟨?_,rfl⟩;rw [decide_eq_true e];done)
   | (have hs:smA (a.getD i od) (b.getD i od)=false:=by assumption
      have hne:a ≠ b:=tkNe (d:=od) (i:=i) (zcN_ hs)
      refine ⟨?_,rfl⟩;rw [decide_eq_false hne];done)
   | (have hs:smA (a.getD i od) (b.getD i od)=true:=by assumption
      exact ⟨i+1,⟨by omega,uJ_ he (by omega) hl2 (d:=od) (zcM_ hs)⟩,by (try simp only [zk_,zl_,zi_] at*);omega,rfl,rfl⟩)
 ·cases e
def ZD_:IR:=
(sq (kr [0,1,2] [oD 6 (.mov cF)])
(sq (sq (kr [0,1,2] [oM 10 0,
oE 11 10,
oM 12 1,
oE 13 12,
oB 14 .neq 11 13])
(.cond 14
(sq (.reg [oD 6 (.mov cF)])
.ret)
.skip))
(sq (sq (kr [0,1,2] [oM 15 0,
oE 16 15,
oD 17 (.mov (cI 0))])
(.block 0
(.loop
(sq (kr [1,2,15,16,17] [oB 18 .lss 17 16])
(sq (.cond 18
.skip
(.exit 0))
(sq (.block 1
(sq (kr [1,2,15,16,17] [oM 19 17,
oI 20 10 15 17,
oK 21 10 20,
oD 8 (.box [.int .i64 0,.int .u64 0,.int .u64 0,.int .i64 0,.int .i64 0,.kb false,.int .u64 0,.imm (.int .u8) [],.imm (.int .u8) [],.imm (.int .u8) []]),
oM 7 19,
oS 10 8 21])
(sq (kr [1,2,7,8,15,16,17] [oM 22 1,
oM 23 7,
oI 24 10 22 23,
oK 25 10 24,
oD 9 (.box [.int .i64 0,.int .u64 0,.int .u64 0,.int .i64 0,.int .i64 0,.kb false,.int .u64 0,.imm (.int .u8) [],.imm (.int .u8) [],.imm (.int .u8) []]),
oS 10 9 25])
(sq (kr [1,2,8,9,15,16,17] [oM 26 2,
oK 27 10 8,
oK 28 10 9,
oD 29 (.call false 26 [27,28]),
oD 30 (.un .not 29)])
(.cond 30
(sq (.reg [oD 6 (.mov cF)])
.ret)
.skip)))))
(kr [1,2,15,16,17] [oB 31 .add 17 (cI 1),
oM 17 31])))))))
(sq (kr [] [oD 6 (.mov cT)])
.ret))))
def ZB_:List RD:=[.tmp 6 true none]
theorem ZC_:zn_ Tryz.prog Tryz.f46 ZD_ ZB_=true:=by kernel_rfl
def zv_:List AV->List Obj->Option (Prop × AV)
 | [.imm ty0 a,.imm ty1 b,.fn 47 [] []],[]=>Qi_ ty0 Y2 a fun a=>Qi_ ty1 Y2 b fun b=>some ((True,.bool (decide ((a:List AC)=b))))
 | _,_=>none
theorem Zx_:ze_ Tryz.prog 46 (RoF zv_).sum:=by
 refine zm_ Tryz.func46 ZC_ (zb_ (s:=RoF QV_) jF_ (zd_ _)) fun args objs p v e=>?_
 unfold zv_ at e
 split at e
 ·rename_i ty0 a ty1 b
  obtain rfl:=ZR_ e
  replace e:=ZS_ e
  obtain rfl:=ZR_ e
  replace e:=ZS_ e
  cases e
  refine ⟨rfl,fun hw ho hp=>?_⟩
  change List AC at a
  change List AC at b
  have hl:a.length<=maxLen:=(hw (.imm Y2 a) (by simp)).2
  unfold maxLen at hl
  clear hw ho
  repeat'(intro t ht;first|(cases t<;>first|(cases ht;done)|(try simp only[zh_]at ht))|((first|refine za_ ht ?_|refine ht ?_ ?_|refine ht.1 ?_ ?_|refine ht ?_)<;>clear ht))
  all_goals first
   | (have hne:a ≠ b:=fun h=>(by assumption:¬ (a.length:Int)=b.length) (by rw [h])
      refine ⟨?_,rfl⟩;rw [decide_eq_false hne];done)
   | (intro r h1 h2;clear h1;refine h2 ⟨[1,2,15,16,17],Nat,(fun i=>i<=a.length/\a.take i=b.take i),fun i=>[.imm Y2 b,.fn 47 [] [],.imm Y2 a,.int .i64 a.length,.int .i64 i],fun _=>[],fun i=>a.length - i,⟨0,⟨Nat.zero_le _,rfl⟩,rfl,rfl⟩,?_⟩;clear h2)
  rintro i ⟨hi,he⟩
  have hl2:a.length=b.length:=by omega
  repeat'(intro t ht;first|(cases t<;>first|(cases ht;done)|(try simp only[zh_]at ht;try(exfalso;first|contradiction|omega)))|((first|refine za_ ht ?_|refine ht ?_ ?_|refine ht.1 ?_ ?_|refine ht ?_)<;>clear ht))
  all_goals (try generalize (Ty.dflt Y2)=od at*)
  all_goals first
   | exact True.intro
   | ((try simp only [zk_,zl_,zi_] at*);omega)
   | (have e:=bm_ he (by omega) hl2
      refine ⟨?_,rfl⟩;rw [decide_eq_true e];done)
   | (have hs:smA (a.getD i od) (b.getD i od)=false:=by assumption
      have hne:a ≠ b:=tkNe (d:=od) (i:=i) (zcN_ hs)
      refine ⟨?_,rfl⟩;rw [decide_eq_false hne];done)
   | (have hs:smA (a.getD i od) (b.getD i od)=true:=by assumption
      exact ⟨i+1,⟨by omega,uJ_ he (by omega) hl2 (d:=od) (zcM_ hs)⟩,by (try simp only [zk_,zl_,zi_] at*);omega,rfl,rfl⟩)
 ·cases e
def U5_:IR:=
(sq (kr [0,1] [oD 4 (.mov cF)])
(sq (.reg [oM 5 0,
oM 6 1,
oC 7 46 [5,6,.f 47],
oM 4 7])
.ret))
def Uh_:List RD:=[.tmp 4 true none]
theorem UG_:zn_ Tryz.prog Tryz.f30 U5_ Uh_=true:=by kernel_rfl
def wj_:List AV->List Obj->Option (Prop × AV)
 | [.imm ty0 a,.imm ty1 b],[]=>Qi_ ty0 Y2 a fun a=>Qi_ ty1 Y2 b fun b=>some ((True,.bool (decide ((a:List AC)=b))))
 | _,_=>none
theorem vE_:ze_ Tryz.prog 30 (RoF wj_).sum:=by
 refine zm_ Tryz.func30 UG_ (zb_ (s:=RoF zv_) Zx_ (zb_ (s:=RoF QV_) jF_ (zd_ _))) fun args objs p v e=>?_
 unfold wj_ at e
 split at e
 ·rename_i ty0 a ty1 b
  obtain rfl:=ZR_ e
  replace e:=ZS_ e
  obtain rfl:=ZR_ e
  replace e:=ZS_ e
  cases e
  refine ⟨rfl,fun hw ho hp=>?_⟩
  repeat'(intro t ht;first|(cases t<;>first|(cases ht;done)|(try simp only[zh_]at ht;try(exfalso;first|contradiction|omega)))|((first|refine za_ ht ?_|refine ht ?_ ?_|refine ht.1 ?_ ?_|refine ht ?_)<;>clear ht))
  all_goals first
   | exact True.intro
   | exact ⟨rfl,rfl⟩
   | exact rfl
 ·cases e
theorem zd2_ (a:AC):((a.1,a.2.1,a.2.2.1,(a.2.2.2.1.1,a.2.2.2.1.2.1,a.2.2.2.1.2.2.1,a.2.2.2.1.2.2.2.1,((a.2.2.2.1.2.2.2.2.1++a.2.2.2.1.2.2.2.2.2.1).drop 0).take a.2.2.2.1.2.2.2.2.1.length,((a.2.2.2.1.2.2.2.2.1++a.2.2.2.1.2.2.2.2.2.1).drop a.2.2.2.1.2.2.2.2.1.length).take a.2.2.2.1.2.2.2.2.2.1.length,()),a.2.2.2.2.1,()):AC)=a:=by
 rw [List.drop_zero,List.take_left,List.drop_left,List.take_length]
theorem VN_ {α:Type} {l:List α} {i:Nat} {d:α} (h:i < l.length):l.take i++[l.getD i d]=l.take (i+1):=by
 rw [List.take_succ_eq_append_getElem h,List.getD_eq_getElem?_getD,List.getElem?_eq_getElem h];rfl
def U6_:IR:=
(sq (kr [0] [oD 2 (.mov (.c (.imm Y2 [])))])
(sq (.reg [oM 6 0,
oE 7 6,
oD 8 (.mkrow Y2 128 ((0:Int),((0:Int),((0:Int),(((0:Int),((0:Int),(false,((0:Int),(([]:List (Ty.den (.int .u8))),(([]:List (Ty.den (.int .u8))),())))))),(([]:List (Ty.den (.int .u8))),()))))) (cI 0) 7),
oM 3 8])
(sq (sq (.reg [oM 9 0,
oE 10 9,
oD 11 (.mov (cI 0))])
(.block 0
(.loop
(sq (kr [3,9,10,11] [oB 12 .lss 11 10])
(sq (.cond 12
.skip
(.exit 0))
(sq (.block 1
(sq (.reg [oI 13 10 9 11,
oK 14 10 13,
oD 5 (.box [.int .i64 0,.int .u64 0,.int .u64 0,.int .i64 0,.int .i64 0,.kb false,.int .u64 0,.imm (.int .u8) [],.imm (.int .u8) [],.imm (.int .u8) []]),
oS 10 5 14])
(kr [3,5,9,10,11] [oM 15 3,
oK 16 10 5,
oC 17 45 [16],
oD 18 (.sliceAll Y2 1 [(0,10,17)]),
oD 19 (.append Y2 128 15 18),
oM 3 19])))
(kr [3,9,10,11] [oB 20 .add 11 (cI 1),
oM 11 20])))))))
(sq (kr [3] [oM 21 3,
oM 2 21])
.ret))))
def Ui_:List RD:=[.tmp 2 false none]
theorem UH_:zn_ Tryz.prog Tryz.f29 U6_ Ui_=true:=by kernel_rfl
def wk_:List AV->List Obj->Option (Prop × AV × List Obj)
 | [.imm ty0 l],[]=>Qi_ ty0 Y2 l fun l=>some ((okL l,.own 0,[.row false Y2 l]))
 | _,_=>none
theorem vF_:ze_ Tryz.prog 29 (RwF wk_).sum:=by
 refine qS_ Tryz.func29 UH_ (zb_ (s:=RwF Ks_) X5_ (zd_ _)) fun args objs p v o e=>?_
 unfold wk_ at e
 split at e
 ·rename_i ty0 l
  obtain rfl:=ZR_ e
  replace e:=ZS_ e
  cases e
  refine ⟨rfl,fun hw ho hp=>?_⟩
  change List AC at l
  clear hw ho
  have hn:=hp.n
  repeat'(intro t ht;first|(cases t<;>first|(cases ht;done)|(try simp only[zh_]at ht))|((first|refine za_ ht ?_|refine ht ?_ ?_|refine ht.1 ?_ ?_|refine ht ?_)<;>clear ht))
  all_goals first
   | exact True.intro
   | ((try simp only [zk_,zl_,zi_] at*);omega)
   | (intro r h1 h2;clear h1;refine h2 ⟨[3,9,10,11],Nat,(fun i=>i<=l.length),fun i=>[.own 0,.imm Y2 l,.int .i64 l.length,.int .i64 i],fun i=>[.row false Y2 (l.take i)],fun i=>l.length - i,⟨0,Nat.zero_le _,rfl,rfl⟩,?_⟩;clear h2)
  rintro i hi
  repeat'(intro t ht;first|(cases t<;>first|(cases ht;done)|(try simp only[zh_]at ht;try(exfalso;first|contradiction|omega)))|((first|refine za_ ht ?_|refine ht ?_ ?_|refine ht.1 ?_ ?_|refine ht ?_)<;>clear ht))
  all_goals (try generalize (Ty.dflt Y2)=od at*)
  all_goals first
   | exact True.intro
   | ((try simp only [zk_,zl_,zi_] at*);omega)
   | (rw [List.take_of_length_le (show l.length<=i by omega)];exact ⟨rfl,rfl⟩)
   | (have hlt:i < l.length:=by omega
      have hln:=hp.a _ (Zq_ hlt od)
      have htk:(l.take i).length=i:=B2_ hi
      first
       | exact ⟨by have:=hln.2.2;exact Nat.le_trans this (by decide),hln.1,hln.2.1⟩
       | (simp only [zA_,List.length_cons,List.length_nil];constructor<;>omega)
       | (simp only [List.length_append,Int.toNat_natCast];omega)
       | (refine ⟨i+1,by omega,by dsimp only;omega,rfl,?_⟩
          dsimp only
          rw [<- VN_ (d:=od) hlt]
          simp only [zA_,Int.toNat_natCast,zd2_]))
 ·cases e
def v1_ (l:List AC):List Int:=(l.filter fun a=>decide (a.1=0)).map fun a=>a.2.1
def yo_ (x:Int):List Int->List Int
 | []=>[x]
 | y :: r=>if x=y then y :: r else if x < y then x :: y :: r else y :: yo_ x r
def poF (l:List Int):List Int:=l.foldl (fun o x=>yo_ x o) []
theorem YR_ (x z:Int):∀ o:List Int,z ∈ yo_ x o ↔ z=x\/z ∈ o
 | []=>by simp [yo_]
 | y :: r=>by
   unfold yo_
   split
   ·rename_i h;subst h;simp
   ·split
    ·simp
    ·rw [List.mem_cons,YR_ x z r,List.mem_cons]
     constructor
     ·rintro (h | h | h)<;>simp [h]
     ·rintro (h | h | h)<;>simp [h]
def Sst (o:List Int):Prop:=o.Pairwise (· < ·)
theorem G8_ (x:Int):∀ o:List Int,Sst o->Sst (yo_ x o)
 | [],_=>List.pairwise_singleton ..
 | y :: r,h=>by
   have h':=List.pairwise_cons.1 h
   unfold yo_
   split
   ·exact h
   ·rename_i h1
    split
    ·rename_i h2
     refine List.pairwise_cons.2 ⟨fun z hz=>?_,h⟩
     rcases List.mem_cons.1 hz with rfl | hz
     ·exact h2
     ·have:=h'.1 z hz;omega
    ·rename_i h2
     refine List.pairwise_cons.2 ⟨fun z hz=>?_,G8_ x r h'.2⟩
     rcases (YR_ x z r).1 hz with rfl | hz
     ·omega
     ·exact h'.1 z hz
theorem Ul_:∀ (l o:List Int),Sst o->Sst (l.foldl (fun o x=>yo_ x o) o)/\∀ z,z ∈ l.foldl (fun o x=>yo_ x o) o ↔ z ∈ o\/z ∈ l
 | [],o,h=>⟨h,fun z=>by simp⟩
 | x :: l,o,h=>by
   obtain ⟨i1,i2⟩:=Ul_ l (yo_ x o) (G8_ x o h)
   refine ⟨i1,fun z=>?_⟩
   show z ∈ l.foldl (fun o x=>yo_ x o) (yo_ x o) ↔ _
   rw [i2 z,YR_,List.mem_cons]
   constructor
   ·rintro ((h | h) | h)<;>simp [h]
   ·rintro (h | h | h)<;>simp [h]
theorem bw_ (l:List Int):Sst (poF l):=(Ul_ l [] List.Pairwise.nil).1
theorem zb6_ (l:List Int) (z:Int):z ∈ poF l ↔ z ∈ l:=by
 have:=(Ul_ l [] List.Pairwise.nil).2 z
 unfold poF;rw [this];simp
theorem b7_ {o:List Int} (h:Sst o):o.Nodup:=List.Pairwise.imp (fun h=>by omega) h
theorem zc9_ {l k:List Int} (hn:l.Nodup) (h:∀ z,z ∈ l ↔ z ∈ k):srt l 0 l.length=poF k:=by
 have e:srt l 0 l.length=l.mergeSort leI:=by
  unfold srt midR
  rw [List.take_zero,List.nil_append,List.drop_zero,List.take_length,List.drop_length,List.append_nil]
 rw [e]
 have p1:(l.mergeSort leI).Perm l:=List.mergeSort_perm l leI
 have p2:l.Perm (poF k):=(List.perm_ext_iff_of_nodup hn (b7_ (bw_ k))).2 fun z=>by rw [zb6_,h z]
 exact zcQ_ (zaO_ l) (List.Pairwise.imp (fun h=>Int.le_of_lt h) (bw_ k)) (p1.trans p2)
def poA (l:List AC):List Int:=poF (v1_ l)
theorem zap_ (l:List AC):(v1_ l).length<=l.length:=by unfold v1_;rw [List.length_map];exact List.length_filter_le ..
theorem V1_ {l:List AC} {i:Nat} (h:i < l.length) (d:AC):v1_ (l.take (i+1))=v1_ (l.take i)++(if (l.getD i d).1=0 then [(l.getD i d).2.1] else []):=by
 unfold v1_
 rw [<- VN_ (d:=d) h,List.filter_append,List.map_append]
 congr 1
 by_cases c:(l.getD i d).1=0
 ·rw [if_pos c,List.filter_cons_of_pos (by simpa using c)];rfl
 ·rw [if_neg c,List.filter_cons_of_neg (by simpa using c)];rfl
theorem bD_:∀ (m:List (Int × Int)) (k v:Int),(xX_ m k v).map Prod.fst=if k ∈ m.map Prod.fst then m.map Prod.fst else m.map Prod.fst++[k]
 | [],k,v=>rfl
 | (a,b) :: r,k,v=>by
   unfold xX_
   by_cases c:a=k
   ·subst c
    rw [if_pos rfl,if_pos (by simp)];rfl
   ·rw [if_neg c,List.map_cons,bD_ r k v,List.map_cons]
    by_cases h:k ∈ r.map Prod.fst
    ·rw [if_pos h,if_pos (List.mem_cons_of_mem _ h)]
    ·rw [if_neg h,if_neg (fun d=>(List.mem_cons.1 d).elim (fun e=>c e.symm) h)];rfl
theorem zaH_:∀ (m:List (Int × Int)) (k v z:Int),ZL_ (xX_ m k v) z=if k=z then some v else ZL_ m z
 | [],k,v,z=>by unfold xX_ ZL_;rfl
 | (a,b) :: r,k,v,z=>by
   unfold xX_
   by_cases c:a=k
   ·subst c
    rw [if_pos rfl];unfold ZL_
    by_cases h:a=z
    ·rw [if_pos h,if_pos h]
    ·rw [if_neg h,if_neg h,if_neg h]
   ·rw [if_neg c];unfold ZL_
    rw [zaH_ r k v z]
    by_cases h:a=z
    ·rw [if_pos h,if_pos h,if_neg (fun d=>c (h.trans d.symm))]
    ·rw [if_neg h,if_neg h]
structure kOk (m:List (Int × Int)) (ks:List Int):Prop where
 nd:(m.map Prod.fst).Nodup
 mem:∀ z,z ∈ m.map Prod.fst ↔ z ∈ ks
 r:∀ z,0<=(ZL_ m z).getD 0/\(ZL_ m z).getD 0<=ks.length
 l:m.length<=ks.length
theorem zcm_:kOk [] []:=⟨List.Pairwise.nil,fun z=>Iff.rfl,fun z=>⟨Int.le_refl _,Int.le_refl _⟩,Nat.le_refl _⟩
theorem zcn_ {m:List (Int × Int)} {ks:List Int} {k:Int} (h:kOk m ks):kOk (xX_ m k ((ZL_ m k).getD 0+1)) (ks++[k]):=by
 refine ⟨?_,fun z=>?_,fun z=>?_,?_⟩
 ·rw [bD_]
  split
  ·exact h.nd
  ·rename_i hn
   refine List.nodup_append.2 ⟨h.nd,List.pairwise_singleton ..,fun a ha b hb e=>?_⟩
   rw [List.mem_singleton.1 hb] at e
   exact hn (e ▸ ha)
 ·rw [bD_,List.mem_append,List.mem_singleton,<- h.mem z]
  split
  ·rename_i hk
   exact ⟨fun d=>.inl d,fun d=>d.elim id fun e=>e ▸ hk⟩
  ·rw [List.mem_append,List.mem_singleton]
 ·rw [zaH_,List.length_append,List.length_singleton]
  have h1:=h.r k
  have h2:=h.r z
  split
  ·show 0<=(ZL_ m k).getD 0+1/\(ZL_ m k).getD 0+1<=((ks.length+1:Nat):Int);omega
  ·omega
 ·have e:(xX_ m k ((ZL_ m k).getD 0+1)).length=((xX_ m k ((ZL_ m k).getD 0+1)).map Prod.fst).length:=by rw [List.length_map]
  have hl:=h.l
  rw [e,bD_,List.length_append,List.length_singleton]
  split
  ·rw [List.length_map];omega
  ·rw [List.length_append,List.length_map,List.length_singleton];omega
def kAt (m:List (Int × Int)) (d:Nat):Int:=(m.getD d (0,0)).1
theorem zco_ (m:List (Int × Int)):(List.range m.length).map (kAt m)=m.map Prod.fst:=by
 refine List.ext_getElem (by simp) fun i h1 h2=>?_
 rw [List.getElem_map,List.getElem_map,List.getElem_range]
 unfold kAt
 rw [List.getD_eq_getElem?_getD,List.getElem?_eq_getElem (by simpa using h2)];rfl
theorem zaa_ {m:List (Int × Int)} {ks:List Int} {seen:List Nat} (h:kOk m ks) (hn:seen.Nodup) (hl:∀ d ∈ seen,d < m.length) (hall:∀ d,d < m.length->d ∈ seen):srt (seen.map (kAt m)) 0 (seen.map (kAt m)).length=poF ks:=by
 have hp:seen.Perm (List.range m.length):=(List.perm_ext_iff_of_nodup hn List.nodup_range).2 fun d=>⟨fun q=>List.mem_range.2 (hl d q),fun q=>hall d (List.mem_range.1 q)⟩
 have hq:(seen.map (kAt m)).Perm (m.map Prod.fst):=by rw [<- zco_];exact hp.map _
 exact zc9_ (hq.nodup_iff.2 h.nd) fun z=>by rw [hq.mem_iff,h.mem z]
def bysU (a:AC):Prop:=0<=a.2.2.2.1.2.2.2.1/\(0<=a.2.1/\a.2.1<=18446744073709551615)/\(0<=a.2.2.1/\a.2.2.1<=18446744073709551615)
theorem zc3_ {a:AC} {rest:List Int} (hr:rgA a=true) (hu:bysU a):acE (ebA a++rest)=0/\vA (ebA a++rest)=a/\tN (ebA a++rest)=(ebA a).length:=by
 obtain ⟨E1,E2,E3,E4,E5,E6,E7,E8,E9,E10,E11,E12⟩:=zdE_ (rest:=rest) (show ZM_ (zG_ a.2.2.2.1.1 a.2.2.2.1.2.1 a.2.2.2.1.2.2.1 a.2.2.2.1.2.2.2.1 a.2.2.2.1.2.2.2.2.1 a.2.2.2.1.2.2.2.2.2.1) a.1 a.2.1 a.2.2.1 a.2.2.2.1.1 a.2.2.2.1.2.1 a.2.2.2.1.2.2.1 a.2.2.2.1.2.2.2.1 a.2.2.2.1.2.2.2.2.1 a.2.2.2.1.2.2.2.2.2.1 a.2.2.2.2.1=true from hr) hu.2.1 hu.2.2 hu.1
 have hs:=VO_ hr
 have e:szA a=4+((ZV_ a.1 a.2.1 a.2.2.1 (Zf_ a.2.2.2.1.1 a.2.2.2.1.2.1 a.2.2.2.1.2.2.1 a.2.2.2.1.2.2.2.1 a.2.2.2.1.2.2.2.2.1 a.2.2.2.1.2.2.2.2.2.1) a.2.2.2.2.1).length:Int):=(wq_ hr).1
 refine ⟨E1,?_,?_⟩
 ·show (tT _,acA _ 0,acA _ 1,(acS _ _,acS _ _,acH _,acS _ _,acV _ _,acV _ _,()),acD _,())=a
  unfold ebA
  rw [E2,E4,E5,E6,E7,E8,E9,E10,E11,E12]
 ·unfold ebA at hs ⊢
  rw [E3];omega
theorem bT_:∀ (r acc:List AC),r.all rgA=true->(∀ a ∈ r,bysU a)->acc.length+r.length<=64->alG acc (boA r)=(acc++r,0)
 | [],acc,_,_,_=>by rw [wC_ (by rfl),List.append_nil]
 | a :: r,acc,h,hu,hl=>by
   rw [List.all_cons,Bool.and_eq_true] at h
   obtain ⟨e1,e2,e3⟩:=zc3_ (rest:=boA r) h.1 (hu a (List.mem_cons_self ..))
   have hs:=VO_ h.1
   rw [List.length_cons] at hl
   have ha:acc++a :: r=(acc++[a])++r:=by rw [List.append_assoc];rfl
   rw [J6_,vk_ (by rw [List.length_append];omega) (by omega) e1 (by rw [e3];omega),e2,e3,Int.toNat_natCast,List.drop_left]
   rw [bT_ r (acc++[a]) h.2 (fun o ho=>hu o (List.mem_cons_of_mem _ ho)) (by rw [List.length_append,List.length_singleton];omega),<- ha]
theorem bU_:∀ (n:Nat) (y:List Int) (acc l:List AC),y.length<=n->(∀ x ∈ y,0<=x/\x<=255)->acc.length<=64->alG acc y=(l,0)->∃ r,l=acc++r/\r.all rgA=true/\boA r=y/\l.length<=64
 | 0,y,acc,l,hn,hb,ha,h=>by
   rw [wC_ (by omega)] at h
   cases h
   refine ⟨[],by rw [List.append_nil],rfl,?_,ha⟩
   rw [List.eq_nil_of_length_eq_zero (show y.length=0 by omega)];rfl
 | n+1,y,acc,l,hn,hb,ha,h=>by
   by_cases h0:y.length=0
   ·rw [wC_ h0] at h
    cases h
    refine ⟨[],by rw [List.append_nil],rfl,?_,ha⟩
    rw [List.eq_nil_of_length_eq_zero h0];rfl
   ·by_cases h1:acc.length=64
    ·rw [vl_ h0 h1] at h
     exact absurd (congrArg Prod.snd h) (show ¬ (520:Int)=0 by decide)
    ·by_cases h2:acE y=0
     ·obtain ⟨g1,g2,_⟩:=gq_ h2
      rw [vk_ h0 h1 h2 (by omega)] at h
      obtain ⟨r,e1,e2,e3,e4⟩:=bU_ n (y.drop (tN y).toNat) (acc++[vA y]) l (by rw [List.length_drop];omega) (fun x hx=>hb x (List.mem_of_mem_drop hx)) (by rw [List.length_append,List.length_singleton];omega) h
      obtain ⟨f1,f2,_,_⟩:=zdF_ hb h2
      refine ⟨vA y :: r,?_,?_,?_,e4⟩
      ·rw [e1,List.append_assoc];rfl
      ·rw [List.all_cons,e2,Bool.and_true];exact f1
      ·rw [J6_,e3]
       have:ebA (vA y)=y.take (tN y).toNat:=f2
       rw [this,List.take_append_drop]
     ·rw [yD_ h0 h1 h2] at h
      exact absurd (congrArg Prod.snd h) h2
theorem bb_ {l:List AC} (h:rgL l=true) (hu:∀ a ∈ l,bysU a):adL (boA l)=l/\adE (boA l)=0:=by
 obtain ⟨h1,h2,h3,_⟩:=qA_ h
 have hg:=bT_ l [] h1 hu (by simpa using h2)
 rw [List.nil_append] at hg
 exact (Wv_ hg).2 (by omega)
theorem zdC_ {b:List Int} (hb:∀ x ∈ b,0<=x/\x<=255) (h:adE b=0):rgL (adL b)=true/\boA (adL b)=b/\b.length<=65528:=by
 have h1:(alG [] b).2=0:=Classical.byContradiction fun hn=>by
  unfold adE at h;rw [if_pos hn] at h;exact hn h
 have h2:¬ 65528 < b.length:=fun hl=>by
  unfold adE at h;rw [if_neg (not_not_intro h1),if_pos hl] at h;cases h
 have hL:adL b=(alG [] b).1:=if_pos h
 obtain ⟨r,e1,e2,e3,e4⟩:=bU_ b.length b [] (alG [] b).1 (Nat.le_refl _) hb (Nat.zero_le _) (Prod.ext rfl h1)
 rw [List.nil_append] at e1
 rw [hL]
 rw [<- e1] at e2 e3
 exact ⟨zaf_ e2 e4 (by rw [e3];omega),e3,by omega⟩
def L13:List AC:=[(0,3,1,(0,0,false,0,[],[],()),[],()),(18,0,0,(0,0,false,0,[],[],()),[],()),(0,1,0,(0,0,false,0,[],[],()),[],())]
theorem s13r:rgL L13=true:=by decide+kernel
theorem s13l:(boA L13).length=40:=by decide+kernel
theorem s13d:adL (boA L13)=L13/\adE (boA L13)=0:=bb_ s13r fun a ha=>by
 rcases List.mem_cons.1 ha with rfl | ha
 ·exact ⟨by decide,by decide,by decide⟩
 ·rcases List.mem_cons.1 ha with rfl | ha
  ·exact ⟨by decide,by decide,by decide⟩
  ·rcases List.mem_singleton.1 ha with rfl
   exact ⟨by decide,by decide,by decide⟩
theorem s13e:alL L13=boA L13/\alE L13=0:=by
 unfold alL alE;rw [s13r];exact ⟨rfl,rfl⟩
theorem s13p:poA L13=[1,3]:=by decide
theorem s13z:szL L13=40:=by rw [(qA_ s13r).2.2.2,s13l];rfl
theorem s13o:okL L13:=(gc_ (by decide)).1
theorem s13n:adL []=[]/\adE []=0:=by
 have h:=bb_ (l:=[]) (by decide) (fun a ha=>by cases ha)
 exact h
structure SrX where
 r:List Int
structure SrM where
 r:List Int
 m:Nat
structure SrF where
 r:List Int
 m:Nat
 f:Bool
structure SrP where
 j:Nat
 h:Int
 s:Int
theorem gr_.mono {l:List Int} {a b c:Nat} (h:gr_ l a b) (hc:c<=b):gr_ l a c:=fun i j h1 h2 h3=>h i j h1 h2 (by omega)
def wR_:IR:=
(sq (kr [0] [oD 2 (.mov cF)])
(sq (.reg [oM 3 0,
oM 4 0,
oB 5 .neq 3 4,
oM 2 5])
.ret))
def wM_:List RD:=[.tmp 2 true none]
theorem wO_:zn_ Tryz.prog Tryz.f123 wR_ wM_=true:=by kernel_rfl
def q2_:List AV->List Obj->Option (Prop × AV)
 | [.int .u64 x],[]=>some ((True,.bool false))
 | _,_=>none
theorem Jp_:ze_ Tryz.prog 123 (RoF q2_).sum:=by
 refine zm_ Tryz.func123 wO_ (zd_ _) fun args objs p v e=>?_
 unfold q2_ at e
 split at e
 ·rename_i x
  cases e
  refine ⟨rfl,fun hw ho hp=>?_⟩
  repeat'(intro t ht;first|(cases t<;>first|(cases ht;done)|(try simp only[zh_]at ht;try(exfalso;first|contradiction|omega)))|((first|refine za_ ht ?_|refine ht ?_ ?_|refine ht.1 ?_ ?_|refine ht ?_)<;>clear ht))
  all_goals first
   | exact True.intro
   | exact ⟨rfl,rfl⟩
   | (refine ⟨congrArg AV.bool ?_,rfl⟩;simp;done)
 ·cases e
def Wn_:IR:=
(sq (kr [0,1] [oD 4 (.mov cF)])
(sq (kr [0,1] [oM 5 0,
oC 6 123 [5],
oM 7 6,
oT 7 8 (.mov 1),
oT 7 9 (.call false (.f 123) [8]),
oT 7 10 (.un .not 9),
oP 11 7 10 cF,
oM 12 11,
oF 12 13 (.mov 0),
oF 12 14 (.mov 1),
oF 12 15 (.bin .lss 13 14),
oP 16 12 cT 15,
oM 4 16])
.ret))
def w9_:List RD:=[.tmp 4 true none]
theorem Wf_:zn_ Tryz.prog Tryz.f94 Wn_ w9_=true:=by kernel_rfl
def qh_:List AV->List Obj->Option (Prop × AV)
 | [.int .u64 x,.int .u64 y],[]=>some ((True,.bool (decide (x < y))))
 | _,_=>none
theorem kn_:ze_ Tryz.prog 94 (RoF qh_).sum:=by
 refine zm_ Tryz.func94 Wf_ (zb_ (s:=RoF q2_) Jp_ (zd_ _)) fun args objs p v e=>?_
 unfold qh_ at e
 split at e
 ·rename_i x y
  cases e
  refine ⟨rfl,fun hw ho hp=>?_⟩
  repeat'(intro t ht;first|(cases t<;>first|(cases ht;done)|(try simp only[zh_]at ht;try(exfalso;first|contradiction|omega)))|((first|refine za_ ht ?_|refine ht ?_ ?_|refine ht.1 ?_ ?_|refine ht ?_)<;>clear ht))
  all_goals first
   | exact True.intro
   | exact ⟨rfl,rfl⟩
 ·cases e
def qG_:IR:=
(sq (kr [0,1,2] [oM 8 1,
oB 9 .add 8 (cI 1),
oM 6 9])
(.block 0
(.loop
(sq (sq (kr [0,1,2,6] [oM 10 6,
oM 11 2,
oB 12 .lss 10 11])
(.cond 12
.skip
(.exit 0)))
(sq (.block 1
(sq (.reg [oM 15 6,
oM 7 15])
(.block 2
(.loop
(sq (sq (kd [0,1,2,6,7] [(oM 16 7,[]),
(oM 17 1,[0]),
(oB 18 .gtr 16 17,[]),
(oM 19 18,[]),
(oT 19 20 (.mov 0),[]),
(oT 19 21 (.mov 7),[0]),
(oT 19 22 (.indexSl 1 20 21),[]),
(oT 19 23 (.load none 22),[]),
(oT 19 24 (.mov 0),[0,0,0,0]),
(oT 19 25 (.mov 7),[0,0,0,0,0]),
(oT 19 26 (.bin .sub 25 (cI 1)),[1,0,0,0,0]),
(oT 19 27 (.indexSl 1 24 26),[3,0,0,0]),
(oT 19 28 (.load none 27),[4,0,0,0]),
(oT 19 29 (.call false (.f 94) [23,28]),[]),
(oP 30 19 29 cF,[])])
(.cond 30
.skip
(.exit 2)))
(sq (.block 3
(kd [0,1,2,6,7] [(oM 33 0,[]),
(oM 34 7,[0]),
(oM 35 0,[0,0]),
(oM 36 7,[0,0,0]),
(oB 37 .sub 36 (cI 1),[1,0,0]),
(oM 38 0,[0,0,0,0,0]),
(oM 39 7,[0,0,0,0,0,0]),
(oB 40 .sub 39 (cI 1),[1,0,0,0,0,0]),
(oI 41 1 38 40,[3,0,0,0,0]),
(oL 42 41,[4,0,0,0,0]),
(oM 43 0,[0,0,0,0,0,0,0,0,0,0]),
(oM 44 7,[0,0,0,0,0,0,0,0,0,0,0]),
(oI 45 1 43 44,[2,0,0,0,0,0,0,0,0,0]),
(oL 46 45,[3,0,0,0,0,0,0,0,0,0]),
(oI 47 1 33 34,[9,0,0]),
(oS 1 47 42,[10,0,0]),
(oI 48 1 35 37,[]),
(oS 1 48 46,[])]))
(kr [0,1,2,6,7] [oM 31 7,
oB 32 .sub 31 (cI 1),
oM 7 32])))))))
(kr [0,1,2,6] [oM 13 6,
oB 14 .add 13 (cI 1),
oM 6 14]))))))
def qB_:List RD:=[]
theorem qC_:zn_ Tryz.prog Tryz.f88 qG_ qB_=true:=by kernel_rfl
def zS_:List AV->List Obj->Option (Prop × AV × List Obj)
 | [.own 0,.int .i64 a,.int .i64 b],[.row false (.int .u64) l]=>some ((0<=a/\a<=b/\b<=l.length/\l.length<=1000000,.tup [],[.row false (.int .u64) (srt l a.toNat b.toNat)]))
 | _,_=>none
theorem qi_:ze_ Tryz.prog 88 (RwF zS_).sum:=by
 refine qS_ Tryz.func88 qC_ (zb_ (s:=RoF qh_) kn_ (zd_ _)) fun args objs p v o e=>?_
 unfold zS_ at e
 split at e
 ·rename_i a b l
  cases e
  refine ⟨rfl,fun hw ho hp=>?_⟩
  change List Int at l
  clear hw ho
  change List Int at l
  obtain ⟨h1,h2,h3,h4⟩:=hp
  obtain ⟨a,rfl⟩:=Int.eq_ofNat_of_zero_le h1
  obtain ⟨b,rfl⟩:=Int.eq_ofNat_of_zero_le (show 0<=b by omega)
  rw [Int.toNat_natCast,Int.toNat_natCast]
  have hab:a<=b:=by omega
  have hbl:b<=l.length:=by omega
  repeat'(intro t ht;first|(cases t<;>first|(cases ht;done)|(try simp only[zh_]at ht;try(exfalso;first|contradiction|omega)))|((first|refine za_ ht ?_|refine ht ?_ ?_|refine ht.1 ?_ ?_|refine ht ?_)<;>clear ht))
  all_goals first
   | exact True.intro
   | omega
   | ((try simp only [zk_,zl_,zi_] at*);omega)
   | (intro r h1 h2;clear h1;refine h2 ⟨[0,1,2,6],Nat × List Int,(fun s=>a+1<=s.1/\(s.1<=b\/s.1=a+1)/\Rear l a b s.2/\gr_ s.2 a s.1),fun s=>[.own 0,.int .i64 a,.int .i64 b,.int .i64 s.1],fun s=>[.row false (.int .u64) s.2],fun s=>b+1 - s.1,⟨(a+1,l),⟨Nat.le_refl _,.inr rfl,Rear.refl _ _ _,fun p q _ _ _=>by omega⟩,rfl,rfl⟩,?_⟩;clear h2)
  rintro ⟨i,u⟩ ⟨hi1,hi2,hR,hS⟩
  dsimp only at hi1 hi2 hR hS
  have hl:=hR.len
  repeat'(intro t ht;first|(cases t<;>first|(cases ht;done)|(try simp only[zh_]at ht;try(exfalso;first|contradiction|omega)))|((first|refine za_ ht ?_|refine ht ?_ ?_|refine ht.1 ?_ ?_|refine ht ?_)<;>clear ht))
  all_goals first
   | exact True.intro
   | omega
   | ((try simp only [zk_,zl_,zi_] at*);omega)
   | (intro r h1 h2;clear h1;refine h2 ⟨[0,1,2,6,7],Nat × List Int,(fun s=>InsJ l s.2 a b i s.1),fun s=>[.own 0,.int .i64 a,.int .i64 b,.int .i64 i,.int .i64 s.1],fun s=>[.row false (.int .u64) s.2],fun s=>s.1,⟨(i,u),By_ hR hS (by omega) (by omega),rfl,rfl⟩,?_⟩;clear h2)
   | (have hge:b<=i:=by omega
      have e:=zda_ hab hbl hR (hS.mono hge)
      rw [e];exact ⟨rfl,rfl⟩)
  rintro ⟨j,q⟩ hJ
  dsimp only at hJ
  have hq:=hJ.R.len
  have hj1:=hJ.aj
  have hj2:=hJ.ji
  have hj3:=hJ.ib
  have e0:((j:Int)).toNat=j:=Int.toNat_natCast j
  have e1:((j:Int) - 1).toNat=j - 1:=by omega
  repeat'(intro t ht;first|(cases t<;>first|(cases ht;done)|(try simp only[zh_]at ht;try(exfalso;first|contradiction|omega)))|((first|refine za_ ht ?_|refine ht ?_ ?_|refine ht.1 ?_ ?_|refine ht ?_)<;>clear ht))
  all_goals (try simp only [e0,e1] at*)
  all_goals first
   | exact True.intro
   | omega
   | ((try simp only [zk_,zl_,zi_] at*);omega)
   | (constructor<;>omega)
   | (rw [List.length_set];omega)
   | (refine ⟨(j - 1,_),zaV_ hbl hJ (by omega) (by assumption),?_,?_,?_⟩
      ·dsimp only;omega
      ·rw [show ((j - 1:Nat):Int)=(j:Int) - 1 by omega]
      ·rfl)
   | (have hs:=zaU_ hJ (by first | exact .inr (by assumption) | exact .inl (by omega))
      refine ⟨(i+1,q),⟨?_,?_,hJ.R,hs⟩,?_,?_,?_⟩
      ·dsimp only;omega
      ·dsimp only;omega
      ·dsimp only;omega
      ·rfl
      ·rfl)
 ·cases e
def lnT:List Int:=[0,1,2,2,3,3,3,3,4,4,4,4,4,4,4,4,5,5,5,5,5,5,5,5,5,5,5,5,5,5,5,5,6,6,6,6,6,6,6,6,6,6,6,6,6,6,6,6,6,6,6,6,6,6,6,6,6,6,6,6,6,6,6,6,7,7,7,7,7,7,7,7,7,7,7,7,7,7,7,7,7,7,7,7,7,7,7,7,7,7,7,7,7,7,7,7,7,7,7,7,7,7,7,7,7,7,7,7,7,7,7,7,7,7,7,7,7,7,7,7,7,7,7,7,7,7,7,7,8,8,8,8,8,8,8,8,8,8,8,8,8,8,8,8,8,8,8,8,8,8,8,8,8,8,8,8,8,8,8,8,8,8,8,8,8,8,8,8,8,8,8,8,8,8,8,8,8,8,8,8,8,8,8,8,8,8,8,8,8,8,8,8,8,8,8,8,8,8,8,8,8,8,8,8,8,8,8,8,8,8,8,8,8,8,8,8,8,8,8,8,8,8,8,8,8,8,8,8,8,8,8,8,8,8,8,8,8,8,8,8,8,8,8,8,8,8,8,8,8,8,8,8,8,8,8,8]
def lnF (x:Int):Int:=lnT.getD x.toNat 0
theorem zcU_ (k:Nat):0<=lnT.getD k 0/\lnT.getD k 0<=8:=by
 by_cases h:k < lnT.length
 ·exact (by decide:∀ z ∈ lnT,(0:Int)<=z/\z<=8) _ (Zq_ h 0)
 ·rw [List.getD_eq_getElem?_getD,List.getElem?_eq_none (by omega)];exact ⟨by decide,by decide⟩
def Wl_:IR:=
(sq (kr [0] [oD 2 (.mov (cI 0))])
(sq (sq (.reg [oM 3 0,
oB 4 .geq 3 (.c (.int .u64 4294967296))])
(.cond 4
(sq (.reg [oM 5 0,
oB 6 .shr 5 (.c (.int .u64 32)),
oM 0 6])
(kr [0] [oD 2 (.mov (cI 32))]))
.skip))
(sq (sq (.reg [oM 7 0,
oB 8 .geq 7 (.c (.int .u64 65536))])
(.cond 8
(sq (kr [0,2] [oM 9 0,
oB 10 .shr 9 (.c (.int .u64 16)),
oM 0 10])
(.reg [oM 11 2,
oB 12 .add 11 (cI 16),
oM 2 12]))
.skip))
(sq (sq (kr [0,2] [oM 13 0,
oB 14 .geq 13 (.c (.int .u64 256))])
(.cond 14
(sq (.reg [oM 15 0,
oB 16 .shr 15 (.c (.int .u64 8)),
oM 0 16])
(.reg [oM 17 2,
oB 18 .add 17 (cI 8),
oM 2 18]))
.skip))
(sq (kr [0,2] [oM 19 2,
oM 20 0,
oD 21 (.conv .u8 20),
oD 22 (.sindex (.c (.str [0,1,2,2,3,3,3,3,4,4,4,4,4,4,4,4,5,5,5,5,5,5,5,5,5,5,5,5,5,5,5,5,6,6,6,6,6,6,6,6,6,6,6,6,6,6,6,6,6,6,6,6,6,6,6,6,6,6,6,6,6,6,6,6,7,7,7,7,7,7,7,7,7,7,7,7,7,7,7,7,7,7,7,7,7,7,7,7,7,7,7,7,7,7,7,7,7,7,7,7,7,7,7,7,7,7,7,7,7,7,7,7,7,7,7,7,7,7,7,7,7,7,7,7,7,7,7,7,8,8,8,8,8,8,8,8,8,8,8,8,8,8,8,8,8,8,8,8,8,8,8,8,8,8,8,8,8,8,8,8,8,8,8,8,8,8,8,8,8,8,8,8,8,8,8,8,8,8,8,8,8,8,8,8,8,8,8,8,8,8,8,8,8,8,8,8,8,8,8,8,8,8,8,8,8,8,8,8,8,8,8,8,8,8,8,8,8,8,8,8,8,8,8,8,8,8,8,8,8,8,8,8,8,8,8,8,8,8,8,8,8,8,8,8,8,8,8,8,8,8,8,8,8,8,8,8])) 21),
oD 23 (.conv .i64 22),
oB 24 .add 19 23,
oM 2 24])
.ret)))))
def w7_:List RD:=[.tmp 2 true none]
theorem Wd_:zn_ Tryz.prog Tryz.f98 Wl_ w7_=true:=by kernel_rfl
def Qm_:List AV->List Obj->Option (Prop × AV)
 | [.int .u64 x],[]=>some ((0<=x/\x<=255,.int .i64 (lnF x)))
 | _,_=>none
theorem wI_:ze_ Tryz.prog 98 (RoF Qm_).sum:=by
 refine zm_ Tryz.func98 Wd_ (zd_ _) fun args objs p v e=>?_
 unfold Qm_ at e
 split at e
 ·rename_i x
  cases e
  refine ⟨rfl,fun hw ho hp=>?_⟩
  clear hw ho
  obtain ⟨h0,h5⟩:=hp
  have hwr:IntKind.u8.wrap x=x:=by rw [uC_];omega
  repeat'(intro t ht;first|(cases t<;>first|(cases ht;done)|(try simp only[zh_]at ht;try(exfalso;first|contradiction|omega)))|((first|refine za_ ht ?_|refine ht ?_ ?_|refine ht.1 ?_ ?_|refine ht ?_)<;>clear ht))
  all_goals (try simp only [hwr] at*)
  all_goals first
   | exact True.intro
   | exact ⟨h0,show x < ((256:Nat):Int) by omega⟩
   | (simp only [zi_];omega)
   | (have hq:=zcU_ x.toNat;show IntKind.i64.min<=lnT.getD x.toNat 0/\lnT.getD x.toNat 0<=IntKind.i64.max;simp only [zi_];omega)
   | (have hq:=zcU_ x.toNat;show IntKind.i64.min<=0+lnT.getD x.toNat 0/\0+lnT.getD x.toNat 0<=IntKind.i64.max;simp only [zi_];omega)
   | (refine ⟨congrArg (AV.int .i64) (Int.zero_add _),?_⟩;first | rfl | exact True.intro)
 ·cases e
def xZ_:IR:=
(sq (kr [0] [oD 2 (.mov (cI 0))])
(sq (.cond (.c (.kb false))
(sq (.reg [oM 3 0,
oD 4 (.conv .u32 3),
oC 5 97 [4],
oM 2 5])
.ret)
.skip)
(sq (.reg [oM 6 0,
oC 7 98 [6],
oM 2 7])
.ret)))
def xK_:List RD:=[.tmp 2 true none]
theorem xR_:zn_ Tryz.prog Tryz.f60 xZ_ xK_=true:=by kernel_rfl
def kh_:List AV->List Obj->Option (Prop × AV)
 | [.int .u64 x],[]=>some ((0<=x/\x<=255,.int .i64 (lnF x)))
 | _,_=>none
theorem WU_:ze_ Tryz.prog 60 (RoF kh_).sum:=by
 refine zm_ Tryz.func60 xR_ (zb_ (s:=RoF Qm_) wI_ (zd_ _)) fun args objs p v e=>?_
 unfold kh_ at e
 split at e
 ·rename_i x
  cases e
  refine ⟨rfl,fun hw ho hp=>?_⟩
  repeat'(intro t ht;first|(cases t<;>first|(cases ht;done)|(try simp only[zh_]at ht;try(exfalso;first|contradiction|omega)))|((first|refine za_ ht ?_|refine ht ?_ ?_|refine ht.1 ?_ ?_|refine ht ?_)<;>clear ht))
  all_goals first
   | exact True.intro
   | exact hp
   | exact ⟨rfl,rfl⟩
 ·cases e
def Qw_:IR:=
(sq (kr [0,1,2,3] [oD 8 (.mov cT)])
(sq (.reg [oD 9 (.mov cT)])
(.block 0
(.loop
(.block 1
(sq (kr [0,1,2,3,8,9] [oM 19 2,
oM 20 1,
oB 21 .sub 19 20,
oM 10 21])
(sq (sq (.reg [oM 22 10,
oB 23 .leq 22 (cI 12)])
(.cond 23
(sq (kr [0,1,2] [oM 24 0,
oM 25 1,
oM 26 2,
oD 27 (.call true (.f 88) [24,25,26])])
.ret)
.skip))
(sq (sq (kr [0,1,2,3,8,9,10] [oM 28 3,
oB 29 .eql 28 (cI 0)])
(.cond 29
(sq (.reg [oM 30 0,
oM 31 1,
oM 32 2,
oD 33 (.call true (.f 89) [30,31,32])])
.ret)
.skip))
(sq (sq (kr [0,1,2,3,8,9,10] [oM 34 8,
oD 35 (.un .not 34)])
(.cond 35
(sq (.reg [oM 36 0,
oM 37 1,
oM 38 2,
oD 39 (.call true (.f 90) [36,37,38])])
(kr [0,1,2,3,8,9,10] [oM 40 3,
oB 41 .sub 40 (cI 1),
oM 3 41]))
.skip))
(sq (kr [0,1,2,3,8,9,10] [oM 43 0,
oM 44 1,
oM 45 2,
oC 46 91 [43,44,45],
oM 42 46,
oX 47 42 0,
oX 48 42 1,
oM 11 47,
oM 12 48])
(sq (sq (kr [0,1,2,3,8,9,10,11,12] [oM 49 12,
oB 50 .eql 49 (cI 2)])
(.cond 50
(sq (.reg [oM 51 0,
oM 52 1,
oM 53 2,
oD 54 (.call true (.f 92) [51,52,53])])
(sq (kr [0,1,2,3,8,9,10,11] [oM 55 2,
oB 56 .sub 55 (cI 1),
oM 57 11,
oM 58 1,
oB 59 .sub 57 58,
oB 60 .sub 56 59,
oM 11 60])
(kr [0,1,2,3,8,9,10,11] [oD 12 (.mov (cI 1))])))
.skip))
(sq (sq (kr [0,1,2,3,8,9,10,11,12] [oM 61 8,
oM 62 61,
oT 62 63 (.mov 9),
oP 64 62 63 cF,
oM 65 64,
oT 65 66 (.mov 12),
oT 65 67 (.bin .eql 66 (cI 1)),
oP 68 65 67 cF])
(.cond 68
(sq (kr [0,1,2,3,8,9,10,11] [oM 69 0,
oM 70 1,
oM 71 2,
oD 72 (.call true (.f 93) [69,70,71])])
(.cond 72
.ret
.skip))
.skip))
(sq (sq (kd [0,1,2,3,8,9,10,11] [(oM 73 1,[]),
(oB 74 .gtr 73 (cI 0),[]),
(oM 75 74,[]),
(oT 75 76 (.mov 0),[]),
(oT 75 77 (.mov 1),[0]),
(oT 75 78 (.bin .sub 77 (cI 1)),[1]),
(oT 75 79 (.indexSl 1 76 78),[]),
(oT 75 80 (.load none 79),[]),
(oT 75 81 (.mov 0),[0,0,0,0,0]),
(oT 75 82 (.mov 11),[0,0,0,0,0,0]),
(oT 75 83 (.indexSl 1 81 82),[2,0,0,0,0]),
(oT 75 84 (.load none 83),[3,0,0,0,0]),
(oT 75 85 (.call false (.f 94) [80,84]),[]),
(oT 75 86 (.un .not 85),[]),
(oP 87 75 86 cF,[])])
(.cond 87
(sq (kr [0,1,2,3,8,9,11] [oM 88 0,
oM 89 1,
oM 90 2,
oM 91 11,
oD 92 (.call true (.f 95) [88,89,90,91]),
oM 13 92])
(sq (.reg [oM 93 13,
oM 1 93])
(.exit 1)))
.skip))
(sq (kr [0,1,2,3,10,11] [oM 95 0,
oM 96 1,
oM 97 2,
oM 98 11,
oD 99 (.call true (.f 96) [95,96,97,98]),
oM 94 99,
oX 100 94 0,
oX 101 94 1,
oM 14 100,
oM 15 101])
(sq (kr [0,1,2,3,10,14,15] [oM 102 15,
oM 9 102])
(sq (kr [0,1,2,3,9,10,14] [oM 103 14,
oM 104 1,
oB 105 .sub 103 104,
oM 106 2,
oM 107 14,
oB 108 .sub 106 107,
oM 16 105,
oM 17 108])
(sq (kr [0,1,2,3,9,10,14,16,17] [oM 109 10,
oB 110 .quo 109 (cI 8),
oM 18 110])
(sq (.reg [oM 111 16,
oM 112 17,
oB 113 .lss 111 112])
(.cond 113
(sq (kr [0,1,2,3,9,14,16,18] [oM 114 16,
oM 115 18,
oB 116 .geq 114 115,
oM 8 116])
(sq (kr [0,1,2,3,8,9,14] [oM 117 0,
oM 118 1,
oM 119 14,
oM 120 3,
oD 121 (.call true (.f 59) [117,118,119,120])])
(.reg [oM 122 14,
oB 123 .add 122 (cI 1),
oM 1 123])))
(sq (kr [0,1,2,3,9,14,17,18] [oM 124 17,
oM 125 18,
oB 126 .geq 124 125,
oM 8 126])
(sq (kr [0,1,2,3,8,9,14] [oM 127 0,
oM 128 14,
oB 129 .add 128 (cI 1),
oM 130 2,
oM 131 3,
oD 132 (.call true (.f 59) [127,129,130,131])])
(.reg [oM 133 14,
oM 2 133]))))))))))))))))))))))
def Qu_:List RD:=[]
theorem Qv_:zn_ Tryz.prog Tryz.f59 Qw_ Qu_=true:=by kernel_rfl
def Zj_:List AV->List Obj->Option (Prop × AV × List Obj)
 | [.own 0,.int .i64 a,.int .i64 b,.int .i64 m],[.row false (.int .u64) l]=>some ((0<=a/\a<=b/\b<=l.length/\b - a<=12/\l.length<=1000000,.tup [],[.row false (.int .u64) (srt l a.toNat b.toNat)]))
 | _,_=>none
theorem Qc_:ze_ Tryz.prog 59 (RwF Zj_).sum:=by
 refine qS_ Tryz.func59 Qv_ (zb_ (s:=RwF zS_) qi_ (zb_ (s:=RoF qh_) kn_ (zd_ _))) fun args objs p v o e=>?_
 unfold Zj_ at e
 split at e
 ·rename_i a b m l
  cases e
  refine ⟨rfl,fun hw ho hp=>?_⟩
  change List Int at l
  clear hw ho
  change List Int at l
  obtain ⟨h1,h2,h3,h4,h5⟩:=hp
  repeat'(intro t ht;first|(cases t<;>first|(cases ht;done)|(try simp only[zh_]at ht;try(exfalso;first|contradiction|omega)))|((first|refine za_ ht ?_|refine ht ?_ ?_|refine ht.1 ?_ ?_|refine ht ?_)<;>clear ht))
  all_goals first
   | exact True.intro
   | (intro r h1 h2;refine h1 ⟨1,?_⟩;clear h1 h2)
  repeat'(intro t ht;first|(cases t<;>first|(cases ht;done)|(try simp only[zh_]at ht;try(exfalso;first|contradiction|omega)))|((first|refine za_ ht ?_|refine ht ?_ ?_|refine ht.1 ?_ ?_|refine ht ?_)<;>clear ht))
  all_goals first
   | exact True.intro
   | exact ⟨h1,h2,h3,h5⟩
   | omega
   | ((try simp only [zk_,zl_,zi_] at*);omega)
   | exact ⟨rfl,rfl⟩
 ·cases e
def kd_:IR:=
(sq (kr [0] [oM 3 0,
oE 4 3,
oM 2 4])
(kr [0,2] [oM 5 0,
oM 6 2,
oM 7 2,
oD 8 (.conv .u64 7),
oC 9 60 [8],
oD 10 (.call true (.f 59) [5,(cI 0),6,9])]))
def ka_:List RD:=[]
theorem kc_:zn_ Tryz.prog Tryz.f38 kd_ ka_=true:=by kernel_rfl
def Zz_:List AV->List Obj->Option (Prop × AV × List Obj)
 | [.own 0],[.row false (.int .u64) l]=>some ((l.length<=12,.tup [],[.row false (.int .u64) (srt l 0 l.length)]))
 | _,_=>none
theorem QX_:ze_ Tryz.prog 38 (RwF Zz_).sum:=by
 refine qS_ Tryz.func38 kc_ (zb_ (s:=RoF kh_) WU_ (zb_ (s:=RwF Zj_) Qc_ (zd_ _))) fun args objs p v o e=>?_
 unfold Zz_ at e
 split at e
 ·rename_i l
  cases e
  refine ⟨rfl,fun hw ho hp=>?_⟩
  change List Int at l
  clear hw ho
  change List Int at l
  repeat'(intro t ht;first|(cases t<;>first|(cases ht;done)|(try simp only[zh_]at ht;try(exfalso;first|contradiction|omega)))|((first|refine za_ ht ?_|refine ht ?_ ?_|refine ht.1 ?_ ?_|refine ht ?_)<;>clear ht))
  all_goals first
   | exact True.intro
   | omega
   | ((try simp only [zk_,zl_,zi_] at*);omega)
   | (constructor<;>omega)
   | (refine ⟨?_,?_,?_,?_,?_⟩<;>omega)
   | exact ⟨rfl,rfl⟩
 ·cases e
theorem UJ_:∀ (n:Nat) (s:List Nat),s.Nodup->(∀ d ∈ s,d < n)->s.length<=n
 | 0,s,_,hl=>by
   cases s with
   | nil=>exact Nat.le_refl _
   | cons a r=>exact absurd (hl a (List.mem_cons_self ..)) (Nat.not_lt_zero _)
 | n+1,s,hn,hl=>by
   by_cases h:n ∈ s
   ·have ih:=UJ_ n (s.erase n) (hn.erase n) fun d hd=>by
     have:=(hn.mem_erase_iff).1 hd
     have h2:=hl d this.2
     have h3:=this.1
     omega
    rw [List.length_erase_of_mem h] at ih
    omega
   ·have:=UJ_ n s hn fun d hd=>by
     have h2:=hl d hd
     have h3:d ≠ n:=fun e=>h (e ▸ hd)
     omega
    omega
theorem zaz_ {s:List Nat} {d:Nat} (hn:s.Nodup) (h:d ∉ s):(s++[d]).Nodup:=List.nodup_append.2 ⟨hn,List.pairwise_singleton ..,fun a ha b hb e=>by
 rw [List.mem_singleton.1 hb] at e;exact h (e ▸ ha)⟩
theorem zcj_ (m:List (Int × Int)) (s:List Nat) (d:Nat):(s++[d]).map (kAt m)=s.map (kAt m)++[kAt m d]:=by rw [List.map_append];rfl
theorem zcV_ (s:List Nat) (d:Nat):(s++[d]).getLastD 0=d:=by rw [List.getLastD_eq_getLast?,List.getLast?_append];rfl
def VB_:IR:=
(sq (kr [0] [oD 2 (.nilrow (.int .u64))])
(sq (.reg [oD 7 (.mkmap (.int .u64) (.int .i64)),
oM 3 7])
(sq (sq (.reg [oM 8 0,
oE 9 8,
oD 10 (.mov (cI 0))])
(.block 0
(.loop
(sq (kr [2,3,8,9,10] [oB 11 .lss 10 9])
(sq (.cond 11
.skip
(.exit 0))
(sq (.block 1
(sq (.reg [oI 12 10 8 10,
oK 13 10 12,
oD 5 (.box [.int .i64 0,.int .u64 0,.int .u64 0,.int .i64 0,.int .i64 0,.kb false,.int .u64 0,.imm (.int .u8) [],.imm (.int .u8) [],.imm (.int .u8) []]),
oS 10 5 13])
(sq (.reg [oA 14 0 5,
oL 15 14,
oB 16 .eql 15 (cI 0)])
(.cond 16
(kr [2,3,5,8,9,10] [oM 17 3,
oA 18 1 5,
oL 19 18,
oD 20 (.mget (.int .u64) (.int .i64) (0:Int) false 17 19),
oB 21 .add 20 (cI 1),
oN (.mput (.int .u64) (.int .i64) 17 19 21)])
.skip))))
(kr [2,3,8,9,10] [oB 22 .add 10 (cI 1),
oM 10 22])))))))
(sq (sq (kr [2,3] [oM 23 3,
oD 24 (.rngm 23)])
(.block 2
(.loop
(sq (kr [2,24] [oD 25 (.nxtm 24),
oX 26 25 0])
(sq (.cond 26
.skip
(.exit 2))
(.block 3
(sq (.reg [oD 27 (.entm 24),
oX 28 27 0,
oM 6 28])
(kr [2,6,24] [oM 29 2,
oM 30 6,
oD 31 (.sliceAll (.int .u64) 1 [(0,1,30)]),
oD 32 (.append (.int .u64) 8 29 31),
oM 2 32]))))))))
(sq (kr [2] [oM 33 2,
oD 34 (.call true (.f 38) [33])])
(sq (.reg [oM 35 2,
oM 2 35])
.ret))))))
def vZ_:List RD:=[.tmp 2 true (some (.int .u64))]
theorem Vi_:zn_ Tryz.prog Tryz.f19 VB_ vZ_=true:=by kernel_rfl
def jz_:List AV->List Obj->Option (Prop × AV)
 | [.imm ty0 l],[]=>Qi_ ty0 Y2 l fun l=>some ((l.length<=1000000/\(v1_ l).length<=12,.imm (.int .u64) (poA l)))
 | _,_=>none
theorem yX_:ze_ Tryz.prog 19 (RoF jz_).sum:=by
 refine zm_ Tryz.func19 Vi_ (zb_ (s:=RwF Zz_) QX_ (zd_ _)) fun args objs p v e=>?_
 unfold jz_ at e
 split at e
 ·rename_i ty0 l
  obtain rfl:=ZR_ e
  replace e:=ZS_ e
  cases e
  refine ⟨rfl,fun hw ho hp=>?_⟩
  change List AC at l
  clear hw ho
  obtain ⟨hl,h12⟩:=hp
  repeat'(intro t ht;first|(cases t<;>first|(cases ht;done)|(try simp only[zh_]at ht;try(exfalso;first|contradiction|omega)))|((first|refine za_ ht ?_|refine ht ?_ ?_|refine ht.1 ?_ ?_|refine ht ?_)<;>clear ht))
  all_goals first
   | exact True.intro
   | (intro r h1 h2;clear h1;refine h2 ⟨[2,3,8,9,10],Nat × List (Int × Int),(fun a=>a.1<=l.length/\kOk a.2 (v1_ (l.take a.1))),fun a=>[.own 0,.mapv 1,.imm Y2 l,.int .i64 l.length,.int .i64 a.1],fun a=>[.row false (.int .u64) [],.map true (.int .u64) (.int .i64) a.2],fun a=>l.length - a.1,⟨(0,[]),⟨Nat.zero_le _,zcm_⟩,rfl,rfl⟩,?_⟩;clear h2)
  rintro ⟨i,m⟩ ⟨hi,hm⟩
  dsimp only at hi hm
  have hol:=zap_ (l.take i)
  rw [List.length_take] at hol
  repeat'(intro t ht;first|(cases t<;>first|(cases ht;done)|(try simp only[zh_]at ht;try(exfalso;first|contradiction|omega)))|((first|refine za_ ht ?_|refine ht ?_ ?_|refine ht.1 ?_ ?_|refine ht ?_)<;>clear ht))
  all_goals (try generalize (Ty.dflt Y2)=od at*)
  all_goals first
   | exact True.intro
   | (dsimp only;constructor<;>omega)
   | (dsimp only;simp only [zi_];omega)
   | (have hr:=hm.r (l.getD i od).2.1
      show IntKind.i64.min<=(ZL_ m (l.getD i od).2.1).getD 0+1/\(ZL_ m (l.getD i od).2.1).getD 0+1<=IntKind.i64.max
      simp only [zi_];omega)
   | (refine ⟨(i+1,m),⟨by dsimp only;omega,?_⟩,by dsimp only;omega,rfl,rfl⟩
      dsimp only
      rw [V1_ (by omega) od,if_neg ht,List.append_nil];exact hm)
   | (refine ⟨(i+1,xX_ m (l.getD i od).2.1 ((ZL_ m (l.getD i od).2.1).getD 0+1)),⟨by dsimp only;omega,?_⟩,by dsimp only;omega,rfl,rfl⟩
      dsimp only
      rw [V1_ (by omega) od,if_pos ht];exact zcn_ hm)
   | (intro r h1 h2;clear h1;refine h2 ⟨[2,24],List Nat,(fun s=>s.Nodup/\∀ d ∈ s,d < m.length),fun _=>[.own 0,.ptr 1 0],fun s=>[.row false (.int .u64) (s.map (kAt m)),.miter (.mapv 2) m.length s,.map true (.int .u64) (.int .i64) m],fun s=>m.length+1 - s.length,⟨[],⟨List.Pairwise.nil,fun d hd=>by cases hd⟩,rfl,rfl⟩,?_⟩;clear h2)
  have hge:l.length<=i:=by omega
  rw [List.take_of_length_le hge] at hm
  rintro s ⟨hs1,hs2⟩
  have hsl:=UJ_ m.length s hs1 hs2
  have hml:=hm.l
  have hmap:(s.map (kAt m)).length=s.length:=List.length_map _
  repeat'(intro t ht;first|(cases t<;>first|(cases ht;done)|(try simp only[zh_]at ht;try(exfalso;first|contradiction|omega)))|((first|refine za_ ht ?_|refine ht ?_ ?_|refine ht.1 ?_ ?_|refine ht ?_)<;>clear ht))
  all_goals first
   | exact True.intro
   | exact rfl
   | exact ⟨congrArg (AV.imm (.int .u64)) (zaa_ hm hs1 hs2 fun d hd=>ht d hd),rfl⟩
   | exact ⟨rfl,by simp,by rw [zcV_];exact ht.1⟩
   | (simp only [List.length_cons,List.length_nil];omega)
   | (refine ⟨s++[_],⟨zaz_ hs1 ht.2,fun e he=>?_⟩,?_,rfl,?_⟩
      ·rcases List.mem_append.1 he with h | h
       ·exact hs2 e h
       ·rw [List.mem_singleton.1 h];exact ht.1
      ·have:=UJ_ m.length (s++[_]) (zaz_ hs1 ht.2) (fun e he=>(List.mem_append.1 he).elim (hs2 e) fun h=>by rw [List.mem_singleton.1 h];exact ht.1)
       rw [List.length_append,List.length_singleton] at this
       dsimp only
       rw [List.length_append,List.length_singleton];omega
      ·dsimp only
       rw [zcV_,zcj_];rfl)
   | ((try simp only [zk_,zl_,zi_] at*);omega)
 ·cases e
end Go.Eng
