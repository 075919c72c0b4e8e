/- Parts of the proof: M6, M7, M8, M9, MA, DB. No condition. -/
import Derived.Test.YtimkdohmkfjfaaaGreatDoorProg
import Derived.Test.YtimkdohmkfjfaaaGreatDoorXH10
import Derived.KernelRfl
import Derived.Test.YtimkdohmkfjfaaaGreatDoorXH14
import Derived.Test.YtimkdohmkfjfaaaGreatDoorXH13
namespace Go.Eng
open Go.Proofs
set_option linter.unusedVariables false
set_option linter.unusedSimpArgs false
set_option maxRecDepth 100000
set_option maxHeartbeats 1000000
def vO (y:List Int):OV:=(zs_ y,zF_ y,Zv_ y,q9_ y,Z5_ y,ZT_ y,())
def mlG (acc:List OV) (y:List Int):List OV × Int:=
 if y.length=0 then (acc,0) else if ¬ zC_ y=0 then ([],zC_ y) else if ¬ (ckS [] (acc++[vO y])).2=0 then ([],(ckS [] (acc++[vO y])).2) else mlG (acc++[vO y]) (y.drop (max 1 (Zp_ y).toNat))
termination_by y.length
decreasing_by all_goals (rw [List.length_drop];omega)
theorem vu_ {acc:List OV} {y:List Int} (h:y.length=0):mlG acc y=(acc,0):=by rw [mlG,if_pos h]
theorem U9_ {acc:List OV} {y:List Int} (h:¬ y.length=0) (h1:¬ zC_ y=0):mlG acc y=([],zC_ y):=by rw [mlG,if_neg h,if_pos h1]
theorem Ub_ {acc:List OV} {y:List Int} (h:¬ y.length=0) (h1:zC_ y=0) (h2:¬ (ckS [] (acc++[vO y])).2=0):mlG acc y=([],(ckS [] (acc++[vO y])).2):=by rw [mlG,if_neg h,if_neg (not_not_intro h1),if_pos h2]
theorem vL_ {y:List Int} (hb:∀ x ∈ y,0<=x/\x<=255) (h:zC_ y=0):4<=Zp_ y/\Zp_ y<=y.length:=by
 obtain ⟨h1,h2,h3,h4⟩:=HK_ hb h
 have:=congrArg List.length h2
 rw [List.length_take] at this
 have hl:4<=(qt_ (zs_ y) (zF_ y) (Zv_ y) (q9_ y) (Z5_ y) (ZT_ y)).length:=by
  have:=zm_ (n:=zs_ y) (w:=2) (by decide)
  unfold qt_;simp only [List.length_append,List.length_cons];omega
 omega
theorem G4_ {acc:List OV} {y:List Int} (hb:∀ x ∈ y,0<=x/\x<=255) (h:¬ y.length=0) (h1:zC_ y=0) (h2:(ckS [] (acc++[vO y])).2=0):mlG acc y=mlG (acc++[vO y]) (y.drop (Zp_ y).toNat):=by
 have hn:=vL_ hb h1
 rw [mlG,if_neg h,if_neg (not_not_intro h1),if_neg (not_not_intro h2),show max 1 (Zp_ y).toNat=(Zp_ y).toNat by omega]
theorem H5_ {y:List Int} (h:zC_ y=0):((z8_ y (zs_ y),z8_ y (zF_ y),(if zC_ y=0 then Zv_ y else false),z8_ y (q9_ y),ZH_ y (Z5_ y),ZH_ y (ZT_ y),()):OV)=vO y:=by
 unfold z8_ ZH_ vO;simp only [if_pos h]
def yX_:IR:=
(sq (kr [0] [oD 1 (.boxv 0),
oD 2 (.mov (.c (.undef)))])
(sq (.reg [oD 3 (.mkfn 162 [] [1]),
oM 2 3])
.ret))
def yk_:List RD:=[.tmp 2 true none]
theorem yD_:zq_ Tryz.prog Tryz.f138 yX_ yk_=true:=by kernel_rfl
def KK_:List AV->List Obj->Option (Prop × AV × List Obj)
 | [.imm (.int .u8) b],[]=>some ((True,.fn 162 [] [.ptr 0 0],[.box [.imm (.int .u8) b]]))
 | _,_=>none
theorem xP_:ze_ Tryz.prog 138 (RwF KK_).sum:=by
 refine km_ Tryz.func138 yD_ (zg_ _) fun args objs p v o e=>?_
 unfold KK_ at e
 split at e
 ·rename_i b
  cases e
  refine ⟨rfl,fun hw ho hp=>?_⟩
  change List Int at b
  repeat'(intro t ht;first|(cases t<;>first|(cases ht;done)|(try simp only[zi_]at ht;try(exfalso;first|contradiction|omega)))|((first|refine zb_ ht ?_|refine ht ?_ ?_|refine ht.1 ?_ ?_|refine ht ?_)<;>clear ht))
  all_goals first
   | exact True.intro
   | exact ⟨rfl,rfl⟩
 ·cases e
def yW_:IR:=
(sq (kr [0] [oD 2 (.box [.nils]),
oD 3 (.box [.int .i64 0])])
(sq (sq (.reg [oM 8 0,
oC 9 138 [8]])
(.block 0
(.rng 9 [10,11] [2,3] 162
(sq (kr [2,3,10,11] [oD 4 (.box [.int .i64 0,.int .i64 0,.kb false,.int .u64 0,.nils,.nils]),
oS 6 4 10])
(.reg [oM 5 11]))
(.block 1
(sq (sq (kr [2,3,4,5] [oM 12 5,
oB 13 .neq 12 (cI 0)])
(.cond 13
(sq (.reg [oM 14 5,
oN (.store 1 2 (.c (.nils))),
oS 1 3 14])
.ret)
.skip))
(sq (.reg [oL 15 2,
oK 16 6 4,
oD 17 (.sliceAll Y1 1 [(0,6,16)]),
oD 18 (.append Y1 80 15 17),
oS 1 2 18])
(sq (kr [2,3] [oL 20 2,
oC 21 94 [20],
oM 19 21,
oX 22 19 0,
oX 23 19 1,
oM 6 22,
oM 7 23])
(sq (kr [2,3,7] [oM 24 7,
oB 25 .neq 24 (cI 0)])
(.cond 25
(sq (.reg [oM 26 7,
oN (.store 1 2 (.c (.nils))),
oS 1 3 26])
.ret)
.skip))))))
(.block 0
(.loop
(sq (sq (kr [0,1] [oL 6 1,
oE 7 6,
oB 8 .gtr 7 (cI 0)])
(.cond 8
.skip
(.exit 0)))
(.block 1
(sq (kr [0,1] [oL 10 1,
oC 11 163 [10],
oM 9 11,
oX 12 9 0,
oX 13 9 1,
oX 14 9 2,
oD 3 (.box [.int .i64 0,.int .i64 0,.kb false,.int .u64 0,.imm (.int .u8) [],.imm (.int .u8) []]),
oS 6 3 12,
oM 4 13,
oM 5 14])
(sq (sq (.keep [0,1,3,4,5]
(.yld [oM 15 0,
oK 16 6 3,
oM 17 5] (some 18) (.t 15) [(.t 16),(.t 17)] [0,1,4,5] [oD 19 (.un .not 18),
oM 20 19,
oF 20 21 (.mov 5),
oF 20 22 (.bin .neq 21 (cI 0)),
oP 23 20 cT 22]))
(.cond 23
.ret
.skip))
(kr [0,1,4] [oL 24 1,
oM 25 4,
oD 26 (.slice 1 24 (some 25) none none),
oS 1 1 26]))))))))))
(sq (kr [2,3] [oL 27 2,
oS 1 2 27,
oN (.store 1 3 (cI 0))])
.ret)))
def yj_:List RD:=[.cell 2 none true [(some Y1)],.cell 3 none true []]
theorem yC_:zq_ Tryz.prog Tryz.f87 yW_ yj_=true:=by kernel_rfl
def KJ_:List AV->List Obj->Option (Prop × AV)
 | [.imm (.int .u8) b],[]=>some ((b.length<=100000000,.tup [.imm Y1 (mlG [] b).1,.int .i64 (mlG [] b).2]))
 | _,_=>none
theorem xO_:ze_ Tryz.prog 87 (RoF KJ_).sum:=by
 refine zk_ Tryz.func87 yC_ (za_ (s:=RoF KG_) xL_ (za_ (s:=RwF KK_) xP_ (za_ (s:=RoF QR_) jv_ (zg_ _)))) fun args objs p v e=>?_
 unfold KJ_ at e
 split at e
 ·rename_i b
  cases e
  refine ⟨rfl,fun hw ho hp=>?_⟩
  change List Int at b
  have hb:∀ x ∈ (b:List Int),(0:Int)<=x/\x<=255:=fun x hx=>(hw (.imm (.int .u8) b) (by simp)).1 x hx
  clear hw ho
  repeat'(intro t ht;first|(cases t<;>first|(cases ht;done)|(try simp only[zi_]at ht;try(exfalso;first|contradiction|omega)))|((first|refine zb_ ht ?_|refine ht ?_ ?_|refine ht.1 ?_ ?_|refine ht ?_)<;>clear ht))
  all_goals first
   | exact True.intro
   | (refine .inl fun lr ln=>?_)
  repeat'(intro t ht;first|(cases t<;>first|(cases ht;done)|(try simp only[zi_]at ht;try(exfalso;first|contradiction|omega)))|((first|refine zb_ ht ?_|refine ht ?_ ?_|refine ht.1 ?_ ?_|refine ht ?_)<;>clear ht))
  all_goals first
   | exact True.intro
   | (intro r h1 h2;clear h1;refine h2 ⟨[0,1],Option (List OV × List Int),(fun a=>match a with | none=>True | some a=>a.1.length+a.2.length<=b.length/\(∀ x ∈ a.2,0<=x/\x<=255)/\mlG [] b=mlG a.1 a.2),(fun a=>[.yv ln,.ptr 0 0]),(fun a=>match a with | none=>[.box [.imm (.int .u8) b],.box [.nils],.box [.int .i64 0],.lrec lr 0] | some a=>[.box [.imm (.int .u8) a.2],.box [.own 4],.box [.int .i64 0],.lrec lr 0,.row false Y1 a.1]),(fun a=>match a with | none=>b.length+1 | some a=>a.2.length),⟨none,True.intro,rfl,rfl⟩,?_⟩;clear h2)
  rintro (_ | ⟨acc,y⟩) hJ
  ·clear hJ
   repeat'(intro t ht;first|(cases t<;>first|(cases ht;done)|(try simp only[zi_]at ht;try(exfalso;first|contradiction|omega)))|((first|refine zb_ ht ?_|refine ht ?_ ?_|refine ht.1 ?_ ?_|refine ht ?_)<;>clear ht))
   all_goals (try dsimp only at*)
   all_goals first
    | exact True.intro
    | ((try simp only [zo_,zp_,zn_] at*);omega)
    | exact ⟨rfl,rfl⟩
    | (rw [vu_ (by omega)];exact ⟨rfl,rfl⟩)
    | (simp only [qo_,List.length_cons,List.length_nil];constructor<;>omega)
    | (have h0:zC_ b=0:=by assumption
       have hg:=vL_ hb h0
       have e1:z8_ b (Zp_ b)=Zp_ b:=if_pos h0
       have hv:=H5_ h0
       first
        | (rw [e1];constructor<;>omega)
        | (have hc:¬ (ckS [] ([]++[(z8_ b (zs_ b),z8_ b (zF_ b),if zC_ b=0 then Zv_ b else false,z8_ b (q9_ b),ZH_ b (Z5_ b),ZH_ b (ZT_ b),())])).2=0:=by assumption
           rw [hv] at hc
           have hm:=Ub_ (acc:=[]) (by omega) h0 hc
           rw [hm,<- hv];exact ⟨rfl,rfl⟩)
        | (have hc:(ckS [] ([]++[(z8_ b (zs_ b),z8_ b (zF_ b),if zC_ b=0 then Zv_ b else false,z8_ b (q9_ b),ZH_ b (Z5_ b),ZH_ b (ZT_ b),())])).2=0:=by assumption
           rw [hv] at hc
           have hm:=G4_ (acc:=[]) hb (by omega) h0 hc
           refine ⟨some ([]++[vO b],b.drop (Zp_ b).toNat),⟨?_,fun x hx=>hb x (List.mem_of_mem_drop hx),hm⟩,?_,rfl,?_⟩
           ·simp only [List.length_append,List.length_cons,List.length_nil,List.length_drop];omega
           ·dsimp only;rw [List.length_drop];omega
           ·dsimp only;rw [e1,<- hv];rfl))
    | (have h0:¬ zC_ b=0:=by assumption
       rw [U9_ (by omega) h0];exact ⟨rfl,rfl⟩)
  ·obtain ⟨j1,j2,j3⟩:=hJ
   dsimp only at j1 j2 j3
   repeat'(intro t ht;first|(cases t<;>first|(cases ht;done)|(try simp only[zi_]at ht;try(exfalso;first|contradiction|omega)))|((first|refine zb_ ht ?_|refine ht ?_ ?_|refine ht.1 ?_ ?_|refine ht ?_)<;>clear ht))
   all_goals (try dsimp only at*)
   all_goals first
    | exact True.intro
    | ((try simp only [zo_,zp_,zn_] at*);omega)
    | exact ⟨rfl,rfl⟩
    | (rw [j3,vu_ (by omega)];exact ⟨rfl,rfl⟩)
    | (simp only [qo_,List.length_cons,List.length_nil];constructor<;>omega)
    | (have h0:zC_ y=0:=by assumption
       have hg:=vL_ j2 h0
       have e1:z8_ y (Zp_ y)=Zp_ y:=if_pos h0
       have hv:=H5_ h0
       first
        | (rw [e1];constructor<;>omega)
        | (have hc:¬ (ckS [] (acc++[(z8_ y (zs_ y),z8_ y (zF_ y),if zC_ y=0 then Zv_ y else false,z8_ y (q9_ y),ZH_ y (Z5_ y),ZH_ y (ZT_ y),())])).2=0:=by assumption
           rw [hv] at hc
           have hm:=Ub_ (acc:=acc) (by omega) h0 hc
           rw [j3,hm,<- hv];exact ⟨rfl,rfl⟩)
        | (have hc:(ckS [] (acc++[(z8_ y (zs_ y),z8_ y (zF_ y),if zC_ y=0 then Zv_ y else false,z8_ y (q9_ y),ZH_ y (Z5_ y),ZH_ y (ZT_ y),())])).2=0:=by assumption
           rw [hv] at hc
           have hm:=G4_ (acc:=acc) j2 (by omega) h0 hc
           refine ⟨some (acc++[vO y],y.drop (Zp_ y).toNat),⟨?_,fun x hx=>j2 x (List.mem_of_mem_drop hx),j3.trans hm⟩,?_,rfl,?_⟩
           ·simp only [List.length_append,List.length_cons,List.length_nil,List.length_drop];omega
           ·dsimp only;rw [List.length_drop];omega
           ·dsimp only;rw [e1,<- hv];rfl))
    | (have h0:¬ zC_ y=0:=by assumption
       rw [j3,U9_ (by omega) h0];exact ⟨rfl,rfl⟩)
 ·cases e
theorem b7_ (b:List Int):Q3_ [2] b=if b.length < 2 then ([],1) else ([Z2_ (b.take 2)],0):=by
 have hr:Zr_ [2]=true:=by decide
 unfold Q3_
 rw [if_pos hr]
 have a2:zR_ 2=2:=by decide
 have t2:Int.toNat 2=2:=rfl
 have p2:(0:Int) < 2:=by decide
 simp only [Kv_,a2,t2,if_pos p2]
 by_cases h:b.length < 2
 ·rw [if_pos h,if_pos (by omega)]
 ·rw [if_neg h,if_neg (by omega)];rfl
theorem vp_ {b:List Int} {p sh od:Int} (hp:0<=p) (h:p+2<=b.length):wu_ 2 b p 0=Z2_ ((b.drop p.toNat).take 2)/\jM_ 2 b p 0=p+2/\Jw_ 2 b p sh od 0=0:=by
 have e:Q3_ [2] (b.drop p.toNat)=([Z2_ ((b.drop p.toNat).take 2)],0):=by
  rw [b7_,if_neg (by rw [List.length_drop];omega)]
 have es:kQ_ [2]=2:=by decide
 unfold wu_ jM_ Jw_ xl_ Wd_ We_ XC_ JT_
 rw [e,es];exact ⟨rfl,rfl,rfl⟩
theorem U5_ {b:List Int} {p sh od:Int} (hp:0<=p/\p<=b.length) (h:¬ p+2<=b.length):wu_ 2 b p 0=0/\jM_ 2 b p 0=p/\Jw_ 2 b p sh od 0=sh:=by
 have e:Q3_ [2] (b.drop p.toNat)=([],1):=by
  rw [b7_,if_pos (by rw [List.length_drop];omega)]
 unfold wu_ jM_ Jw_ xl_ Wd_ We_ XC_ JT_
 rw [e];exact ⟨rfl,rfl,rfl⟩
theorem Ho_ {b:List Int} {p sh od e:Int} (he:e ≠ 0):wu_ 2 b p e=0/\jM_ 2 b p e=p/\Jw_ 2 b p sh od e=e:=by
 unfold wu_ jM_ Jw_ xl_ Wd_ We_
 rw [if_neg he,if_neg he,if_neg he];exact ⟨rfl,rfl,rfl⟩
theorem Gx_ {b:List Int} {sh od:Int} (hs:sh ≠ 0):
 (¬ b.length < 4->wu_ 2 b 0 0=tT b/\jM_ 2 b 0 0=2/\Jw_ 2 b 0 sh od 0=0/\wu_ 2 b 2 0=tN b/\jM_ 2 b 2 0=4/\Jw_ 2 b 2 sh od 0=0)/\
 (b.length < 4->wu_ 2 b (jM_ 2 b 0 0) (Jw_ 2 b 0 sh od 0)=0/\Jw_ 2 b (jM_ 2 b 0 0) sh od (Jw_ 2 b 0 sh od 0)=sh/\0<=jM_ 2 b 0 0/\jM_ 2 b 0 0<=b.length):=by
 constructor
 ·intro h
  obtain ⟨a1,a2,a3⟩:=vp_ (b:=b) (p:=0) (sh:=sh) (od:=od) (by decide) (by omega)
  obtain ⟨b1,b2,b3⟩:=vp_ (b:=b) (p:=2) (sh:=sh) (od:=od) (by decide) (by omega)
  exact ⟨a1,a2,a3,b1,b2,b3⟩
 ·intro h
  by_cases h2:b.length < 2
  ·obtain ⟨a1,a2,a3⟩:=U5_ (b:=b) (p:=0) (sh:=sh) (od:=od) ⟨by decide,by omega⟩ (by omega)
   rw [a2,a3]
   obtain ⟨b1,b2,b3⟩:=Ho_ (b:=b) (p:=0) (sh:=sh) (od:=od) hs
   exact ⟨b1,b3,by decide,by omega⟩
  ·obtain ⟨a1,a2,a3⟩:=vp_ (b:=b) (p:=0) (sh:=sh) (od:=od) (by decide) (by omega)
   rw [a2,a3]
   obtain ⟨b1,b2,b3⟩:=U5_ (b:=b) (p:=0+2) (sh:=sh) (od:=od) ⟨by decide,by omega⟩ (by omega)
   exact ⟨b1,b3,by decide,by omega⟩
theorem Ht_ {k p sh:Int} {b:List Int} (hk:1<=k/\k<=7) (hp:0<=p) (h:p+k<=b.length):Wd_ [0 - k] b p 0=(if qc_ ((b.drop p.toNat).take k.toNat)=true then p+k else p)/\We_ [0 - k] b p sh sh 0=(if qc_ ((b.drop p.toNat).take k.toNat)=true then 0 else sh):=by
 have hr:Zr_ [0 - k]=true:=by
  rw [ZW_];refine ⟨by simp,fun n hn=>?_⟩
  simp only [List.mem_cons,List.not_mem_nil,or_false] at hn
  subst hn;omega
 have ha:zR_ (0 - k)=k:=by unfold zR_;split<;>omega
 have hl:(b.drop p.toNat).length=b.length - p.toNat:=List.length_drop
 have e:Q3_ [0 - k] (b.drop p.toNat)=([],if qc_ ((b.drop p.toNat).take k.toNat)=true then 0 else 2):=by
  unfold Q3_;rw [if_pos hr]
  simp only [Kv_,ha]
  rw [if_neg (by omega),if_neg (by omega)]
  split<;>rfl
 have es:kQ_ [0 - k]=k:=by
  unfold kQ_;rw [if_pos hr];simp only [List.map_cons,List.map_nil,List.sum_cons,List.sum_nil,ha];omega
 unfold Wd_ We_ JT_
 rw [e,es]
 cases hz:qc_ ((b.drop p.toNat).take k.toNat) with
 | true=>exact ⟨rfl,rfl⟩
 | false=>exact ⟨rfl,rfl⟩
def mdZ (b:List Int):Bool:=qc_ ((b.drop (tN b).toNat).take (pz (tN b)).toNat)
def mdE (b:List Int):Int:=if b.length < 4 then 1026 else if ¬ tT b=1 then 1025 else if tN b < 4\/65528 < tN b\/b.length < tN b+pz (tN b) then 1026 else if ¬ (mlG [] (bd b)).2=0 then (mlG [] (bd b)).2 else if mdZ b=true then 0 else 1026
def mdL (b:List Int):List OV:=if mdE b=0 then (mlG [] (bd b)).1 else []
def mdN (b:List Int):Int:=if mdE b=0 then tN b+pz (tN b) else 0
theorem w6_ {b:List Int} {e:Int} (h:mdE b=e) (h0:¬ e=0):mdL b=[]/\mdN b=0:=by
 unfold mdL mdN;rw [h,if_neg h0,if_neg h0];exact ⟨rfl,rfl⟩
def xg_:IR:=
(sq (kr [0] [oD 2 (.mov (.c (.imm Y1 []))),
oD 3 (.mov (cI 0)),
oD 4 (.mov (cI 0))])
(sq (.reg [oM 12 0,
oC 13 51 [12,(cI 1026),(cI 1026)],
oM 5 13])
(sq (kr [0,5] [oM 14 5,
oC 15 85 [14,(cI 2)],
oM 16 5,
oC 17 85 [16,(cI 2)],
oD 18 (.conv .i64 17),
oM 6 15,
oM 7 18])
(sq (.block 0
(sq (kr [0,5,6,7] [oM 20 5,
oC 21 53 [20],
oB 22 .neq 21 (cI 0),
oM 19 22])
(.cond 19
(sq (kr [5] [oM 23 5,
oC 24 53 [23],
oD 2 (.mov (.c (.imm Y1 []))),
oD 3 (.mov (cI 0)),
oM 4 24])
.ret)
(sq (.reg [oM 26 6,
oB 27 .neq 26 (.c (.int .u64 1)),
oM 25 27])
(.cond 25
(sq (kr [] [oD 2 (.mov (.c (.imm Y1 []))),
oD 3 (.mov (cI 0)),
oD 4 (.mov (cI 1025))])
.ret)
(sq (kr [0,5,7] [oM 29 7,
oB 30 .lss 29 (cI 4),
oM 31 30,
oF 31 32 (.mov 7),
oF 31 33 (.bin .gtr 32 (cI 65528)),
oP 34 31 cT 33,
oM 35 34,
oF 35 36 (.mov 7),
oF 35 37 (.mov 7),
oF 35 38 (.call false (.f 86) [37]),
oF 35 39 (.bin .add 36 38),
oF 35 40 (.mov 0),
oF 35 41 (.len 40),
oF 35 42 (.bin .gtr 39 41),
oP 43 35 cT 42,
oM 28 43])
(.cond 28
(sq (kr [] [oD 2 (.mov (.c (.imm Y1 []))),
oD 3 (.mov (cI 0)),
oD 4 (.mov (cI 1026))])
.ret)
.skip)))))))
(sq (kr [5,7] [oM 45 5,
oM 46 7,
oB 47 .sub 46 (cI 4),
oC 48 88 [45,47],
oC 49 87 [48],
oM 44 49,
oX 50 44 0,
oX 51 44 1,
oM 8 50,
oM 9 51])
(sq (sq (kr [5,7,8,9] [oM 52 9,
oB 53 .neq 52 (cI 0)])
(.cond 53
(sq (.reg [oM 54 9,
oD 2 (.mov (.c (.imm Y1 []))),
oD 3 (.mov (cI 0)),
oM 4 54])
.ret)
.skip))
(sq (sq (kr [5,7,8] [oM 55 7,
oC 56 86 [55],
oM 10 56])
(sq (.reg [oM 57 10,
oB 58 .gtr 57 (cI 0)])
(.cond 58
(kr [5,8,10] [oM 59 5,
oM 60 10,
oD 61 (.un .neg 60),
oD 62 (.sliceAll (.int .i64) 1 [(0,1,61)]),
oC 63 89 [59,62]])
.skip)))
(sq (sq (.reg [oM 64 5,
oC 65 53 [64],
oM 11 65])
(sq (kr [5,8,11] [oM 66 11,
oB 67 .neq 66 (cI 0)])
(.cond 67
(sq (.reg [oM 68 11,
oD 2 (.mov (.c (.imm Y1 []))),
oD 3 (.mov (cI 0)),
oM 4 68])
.ret)
.skip)))
(sq (kr [5,8] [oM 69 8,
oM 70 5,
oC 71 90 [70],
oM 2 69,
oM 3 71,
oD 4 (.mov (cI 0))])
.ret)))))))))
def W3_:List RD:=[.tmp 2 true (some Y1),.tmp 3 true none,.tmp 4 true none]
theorem W9_:zq_ Tryz.prog Tryz.f39 xg_ W3_=true:=by kernel_rfl
def Q9_:List AV->List Obj->Option (Prop × AV)
 | [.imm (.int .u8) b],[]=>some ((b.length<=100000000,.tup [.imm Y1 (mdL b),.int .i64 (mdN b),.int .i64 (mdE b)]))
 | _,_=>none
theorem wW_:ze_ Tryz.prog 39 (RoF Q9_).sum:=by
 refine zk_ Tryz.func39 W9_ (za_ (s:=RwF QU_) jy_ (za_ (s:=RwF ZA_) qY_ (za_ (s:=RoF zQ_) Zn_ (za_ (s:=RoF Qn_) KR_ (za_ (s:=RwF Zo_) qx_ (za_ (s:=RoF KJ_) xO_ (za_ (s:=RwF z9_) ZO_ (za_ (s:=RoF ZJ_) Qp_ (zg_ _))))))))) fun args objs p v e=>?_
 unfold Q9_ at e
 split at e
 ·rename_i b
  cases e
  refine ⟨rfl,fun hw ho hp=>?_⟩
  change List Int at b
  have hb:∀ x ∈ (b:List Int),(0:Int)<=x/\x<=255:=fun x hx=>(hw (.imm (.int .u8) b) (by simp)).1 x hx
  clear hw ho
  have hn2:0<=tN b/\tN b<=65535:=U6_ (a:=2) hb
  have hz:=Yi_ hn2.1
  obtain ⟨T1,T2⟩:=Gx_ (b:=b) (sh:=1026) (od:=1026) (by decide)
  by_cases h4:b.length < 4
  ·obtain ⟨n1,n2,n3,n4⟩:=T2 h4
   have hE:mdE b=1026:=if_pos h4
   obtain ⟨m1,m2⟩:=w6_ hE (by decide)
   rw [m1,m2,hE]
   repeat'(intro t ht;first|(cases t<;>first|(cases ht;done)|(try simp only[zi_]at ht))|((first|refine zb_ ht ?_|refine ht ?_ ?_|refine ht.1 ?_ ?_|refine ht ?_)<;>clear ht))
   all_goals (try simp only [n1,n2,ga_,gd_] at*)
   all_goals first
    | exact True.intro
    | exact ⟨n3,n4,by omega⟩
    | omega
    | exact ⟨by decide,by omega,by omega⟩
    | exact ⟨rfl,by first | rfl | exact True.intro⟩
    | exact ⟨True.intro,True.intro⟩
    | (exfalso;simp_all;done)
  ·obtain ⟨n1,n2,n3,n4,n5,n6⟩:=T1 h4
   by_cases ht:tT b=1
   ·by_cases hr:tN b < 4\/65528 < tN b\/b.length < tN b+pz (tN b)
    ·have hE:mdE b=1026:=by unfold mdE;rw [if_neg h4,if_neg (not_not_intro ht),if_pos hr]
     obtain ⟨m1,m2⟩:=w6_ hE (by decide)
     rw [m1,m2,hE]
     repeat'(intro t ht;first|(cases t<;>first|(cases ht;done)|(try simp only[zi_]at ht))|((first|refine zb_ ht ?_|refine ht ?_ ?_|refine ht.1 ?_ ?_|refine ht ?_)<;>clear ht))
     all_goals (try simp only [n1,n2,n3,n4,n5,n6,ht] at*)
     all_goals first
      | exact True.intro
      | contradiction
      | omega
      | ((try simp only [zo_,zp_,zn_] at*);omega)
      | exact ⟨by decide,by omega,by omega⟩
      | exact ⟨rfl,by first | rfl | exact True.intro⟩
      | exact ⟨True.intro,True.intro⟩
      | (exfalso;omega)
    ·have hE0:mdE b=if ¬ (mlG [] (bd b)).2=0 then (mlG [] (bd b)).2 else if mdZ b=true then 0 else 1026:=by unfold mdE;rw [if_neg h4,if_neg (not_not_intro ht),if_neg hr]
     obtain ⟨k1,k2,k3⟩:=Ka_ (n:=tN b - 4) (p:=4) (sh:=1026) (b:=b) (by omega) (by omega)
     have k4:(b.take (4+(tN b - 4)).toNat).drop (4:Int).toNat=bd b:=by unfold bd;rw [show 4+(tN b - 4)=tN b by omega];rfl
     rw [k4] at k1
     have k5:(4:Int)+(tN b - 4)=tN b:=by omega
     rw [k5] at k2
     have hbl:=Bb_ hb
     by_cases hg:(mlG [] (bd b)).2=0
     ·rw [if_neg (not_not_intro hg)] at hE0
      by_cases hk:0 < pz (tN b)
      ·obtain ⟨r1,r2⟩:=Ht_ (sh:=1026) (b:=b) (p:=tN b) (k:=pz (tN b)) (by omega) (by omega) (by omega)
       have hZ:qc_ ((b.drop (tN b).toNat).take (pz (tN b)).toNat)=mdZ b:=rfl
       rw [hZ] at r1 r2
       cases hz0:mdZ b with
       | true=>
         rw [hz0] at hE0 r1 r2
         rw [if_pos rfl] at r1 r2 hE0
         have m1:mdL b=(mlG [] (bd b)).1:=if_pos hE0
         have m2:mdN b=tN b+pz (tN b):=if_pos hE0
         rw [m1,m2,hE0]
         repeat'(intro t ht;first|(cases t<;>first|(cases ht;done)|(try simp only[zi_]at ht))|((first|refine zb_ ht ?_|refine ht ?_ ?_|refine ht.1 ?_ ?_|refine ht ?_)<;>clear ht))
         all_goals (try simp only [n1,n2,n3,n4,n5,n6,ht,k1,k2,k3,hg,r1,r2] at*)
         all_goals first
          | exact True.intro
          | contradiction
          | omega
          | ((try simp only [zo_,zp_,zn_] at*);omega)
          | exact ⟨by omega,by omega,by omega,by decide⟩
          | exact ⟨by omega,by omega,by omega⟩
          | exact ⟨rfl,by first | rfl | exact True.intro⟩
          | exact ⟨True.intro,True.intro⟩
          | (exfalso;omega)
       | false=>
         rw [hz0] at hE0 r1 r2
         rw [if_neg (by decide)] at r1 r2 hE0
         obtain ⟨m1,m2⟩:=w6_ hE0 (by decide)
         rw [m1,m2,hE0]
         repeat'(intro t ht;first|(cases t<;>first|(cases ht;done)|(try simp only[zi_]at ht))|((first|refine zb_ ht ?_|refine ht ?_ ?_|refine ht.1 ?_ ?_|refine ht ?_)<;>clear ht))
         all_goals (try simp only [n1,n2,n3,n4,n5,n6,ht,k1,k2,k3,hg,r1,r2] at*)
         all_goals first
          | exact True.intro
          | contradiction
          | omega
          | ((try simp only [zo_,zp_,zn_] at*);omega)
          | exact ⟨by omega,by omega,by omega,by decide⟩
          | exact ⟨by omega,by omega,by omega⟩
          | exact ⟨rfl,by first | rfl | exact True.intro⟩
          | exact ⟨True.intro,True.intro⟩
          | (exfalso;omega)
      ·have hk0:pz (tN b)=0:=by omega
       have hz0:mdZ b=true:=by unfold mdZ;rw [hk0];rfl
       rw [hz0,if_pos rfl] at hE0
       have m1:mdL b=(mlG [] (bd b)).1:=if_pos hE0
       have m2:mdN b=tN b:=by have:mdN b=tN b+pz (tN b):=if_pos hE0;omega
       rw [m1,m2,hE0]
       repeat'(intro t ht;first|(cases t<;>first|(cases ht;done)|(try simp only[zi_]at ht))|((first|refine zb_ ht ?_|refine ht ?_ ?_|refine ht.1 ?_ ?_|refine ht ?_)<;>clear ht))
       all_goals (try simp only [n1,n2,n3,n4,n5,n6,ht,k1,k2,k3,hg] at*)
       all_goals first
        | exact True.intro
        | contradiction
        | omega
        | ((try simp only [zo_,zp_,zn_] at*);omega)
        | exact ⟨by omega,by omega,by omega,by decide⟩
        | exact ⟨by omega,by omega,by omega⟩
        | exact ⟨rfl,by first | rfl | exact True.intro⟩
        | exact ⟨True.intro,True.intro⟩
        | (exfalso;omega)
     ·rw [if_pos hg] at hE0
      obtain ⟨m1,m2⟩:=w6_ hE0 hg
      rw [m1,m2,hE0]
      repeat'(intro t ht;first|(cases t<;>first|(cases ht;done)|(try simp only[zi_]at ht))|((first|refine zb_ ht ?_|refine ht ?_ ?_|refine ht.1 ?_ ?_|refine ht ?_)<;>clear ht))
      all_goals (try simp only [n1,n2,n3,n4,n5,n6,ht,k1,k2,k3] at*)
      all_goals first
       | exact True.intro
       | contradiction
       | omega
       | ((try simp only [zo_,zp_,zn_] at*);omega)
       | exact ⟨by omega,by omega,by omega,by decide⟩
       | exact ⟨by omega,by omega,by omega⟩
       | exact ⟨rfl,by first | rfl | exact True.intro⟩
       | exact ⟨True.intro,True.intro⟩
       | (exfalso;omega)
   ·have hE:mdE b=1025:=by unfold mdE;rw [if_neg h4,if_pos ht]
    obtain ⟨m1,m2⟩:=w6_ hE (by decide)
    rw [m1,m2,hE]
    repeat'(intro t ht;first|(cases t<;>first|(cases ht;done)|(try simp only[zi_]at ht))|((first|refine zb_ ht ?_|refine ht ?_ ?_|refine ht.1 ?_ ?_|refine ht ?_)<;>clear ht))
    all_goals (try simp only [n1,n2,n3,n4,n5,n6] at*)
    all_goals first
     | exact True.intro
     | contradiction
     | omega
     | ((try simp only [zo_,zp_,zn_] at*);omega)
     | exact ⟨by decide,by omega,by omega⟩
     | exact ⟨rfl,by first | rfl | exact True.intro⟩
     | exact ⟨True.intro,True.intro⟩
     | (exfalso;omega)
 ·cases e
theorem bb_ {b:List Int} (h4:¬ b.length < 4) (ht:tT b=1) (hr:¬ (tN b < 4\/65528 < tN b\/b.length < tN b+pz (tN b))):mdE b=if ¬ (mlG [] (bd b)).2=0 then (mlG [] (bd b)).2 else if mdZ b=true then 0 else 1026:=by
 unfold mdE;rw [if_neg h4,if_neg (not_not_intro ht),if_neg hr]
theorem Hy_ {b:List Int} {e:Int} (h4:¬ b.length < 4) (ht:tT b=1) (hr:¬ (tN b < 4\/65528 < tN b\/b.length < tN b+pz (tN b))) (he:(mlG [] (bd b)).2=e) (h0:¬ e=0):mdE b=e/\mdL b=[]/\mdN b=0:=by
 have h:=bb_ h4 ht hr
 rw [he,if_pos h0] at h
 exact ⟨h,w6_ h h0⟩
theorem ur_ (pre:List OV) (o:OV) (r:List OV):ckS pre (o :: r)=if pre.any (fun x=>alO x o)=true then (((pre.length:Nat):Int),1035) else if xc_ pre o.1 o.2.1=true then ckS (pre++[o]) r else (((pre.length:Nat):Int),1034):=rfl
theorem HP_ (pre:List OV):ckS pre []=(0,0):=rfl
theorem go_:∀ (r pre s:List OV),ckS pre (r++s)=if (ckS pre r).2=0 then ckS (pre++r) s else ckS pre r
 | [],pre,s=>by
   rw [List.nil_append,List.append_nil,HP_,if_pos rfl]
 | o :: r,pre,s=>by
   rw [List.cons_append,ur_,ur_ pre o r]
   by_cases h1:pre.any (fun x=>alO x o)=true
   ·simp only [if_pos h1];rw [if_neg (by decide)]
   ·simp only [if_neg h1]
    by_cases h2:xc_ pre o.1 o.2.1=true
    ·simp only [if_pos h2]
     rw [go_ r (pre++[o]) s,List.append_assoc,List.singleton_append]
    ·simp only [if_neg h2];rw [if_neg (by decide)]
theorem HO_ {r s:List OV} (h:(ckS [] (r++s)).2=0):(ckS [] r).2=0:=by
 rw [go_] at h
 by_cases h1:(ckS [] r).2=0
 ·exact h1
 ·rw [if_neg h1] at h;exact h
theorem Hv_ {acc:List OV} {y:List Int} (h:¬ y.length=0) (h1:zC_ y=0) (h2:(ckS [] (acc++[vO y])).2=0) (hn:1<=Zp_ y):mlG acc y=mlG (acc++[vO y]) (y.drop (Zp_ y).toNat):=by
 rw [mlG,if_neg h,if_neg (not_not_intro h1),if_neg (not_not_intro h2),show max 1 (Zp_ y).toNat=(Zp_ y).toNat by omega]
theorem hw_ (o:OV):4<=(ecO o).length:=by
 have:=zm_ (n:=o.1) (w:=2) (by decide)
 unfold ecO qt_;simp only [List.length_append,List.length_cons];omega
theorem uw_ (o:OV) (r:List OV):boO (o :: r)=ecO o++boO r:=List.flatMap_cons
theorem U8_:∀ (r acc:List OV),r.all rgO=true->(∀ o ∈ r,0<=o.2.2.2.1)->(ckS [] (acc++r)).2=0->mlG acc (boO r)=(acc++r,0)
 | [],acc,_,_,_=>by rw [vu_ (by rfl),List.append_nil]
 | o :: r,acc,h,hx,hc=>by
   rw [List.all_cons,Bool.and_eq_true] at h
   have hr:z0_ o.1 o.2.1 o.2.2.1 o.2.2.2.1 o.2.2.2.2.1 o.2.2.2.2.2.1=true:=h.1
   obtain ⟨D1,D2,D3,D4,D5,D6,D7,D8⟩:=HL_ (b:=boO r) hr (hx o (List.mem_cons_self ..))
   have hge:=hw_ o
   have hv:vO (ecO o++boO r)=o:=by
    unfold vO ecO;rw [D2,D3,D4,D5,D6,D7]
   have hE:zC_ (ecO o++boO r)=0:=D1
   have hN:Zp_ (ecO o++boO r)=(ecO o).length:=D8
   have ha:acc++o :: r=(acc++[o])++r:=by rw [List.append_assoc];rfl
   have hc1:(ckS [] (acc++[o])).2=0:=by rw [ha] at hc;exact HO_ hc
   rw [uw_,Hv_ (by rw [List.length_append];omega) hE (by rw [hv];exact hc1) (by rw [hN];omega),hv,hN,Int.toNat_natCast,List.drop_left]
   rw [U8_ r (acc++[o]) h.2 (fun o ho=>hx o (List.mem_cons_of_mem _ ho)) (by rw [<- ha];exact hc),<- ha]
theorem hL_:∀ (l:List OV),4*l.length<=(boO l).length
 | []=>Nat.zero_le _
 | o :: r=>by
   have:=hL_ r
   have:=hw_ o
   rw [uw_,List.length_append,List.length_cons];omega
theorem H8_ {l:List OV} (h:rgM l=true):okM l:=by
 obtain ⟨h1,h2,h3,h4,h5⟩:=Jg_ h
 refine ⟨⟨fun o ho=>?_⟩,?_⟩
 ·have:=GH_ (List.all_eq_true.1 h1 o ho)
  exact ⟨by omega,by omega⟩
 ·have:=hL_ l
  have:meN l=4+(boO l).length:=rfl
  omega
theorem Hz_ {N:Int} {body rest:List Int} (hN:N=4+body.length) (hN2:N<=65535):
 tT (zf_ 1 2++zf_ N 2++body++rest)=1/\tN (zf_ 1 2++zf_ N 2++body++rest)=N/\bd (zf_ 1 2++zf_ N 2++body++rest)=body/\(zf_ 1 2++zf_ N 2++body++rest).drop N.toNat=rest/\(zf_ 1 2++zf_ N 2++body++rest).length=4+body.length+rest.length:=by
 have l2:(zf_ 1 2).length=2:=by have:=zm_ (n:=1) (w:=2) (by decide);omega
 have l3:(zf_ N 2).length=2:=by have:=zm_ (n:=N) (w:=2) (by decide);omega
 have e1:tT (zf_ 1 2++zf_ N 2++body++rest)=1:=by
  unfold tT;rw [List.append_assoc,List.append_assoc,List.take_left' l2];exact bx_ (by decide)
 have e2:tN (zf_ 1 2++zf_ N 2++body++rest)=N:=by
  unfold tN;rw [List.append_assoc,List.append_assoc,List.drop_left' l2,List.take_left' l3];exact bx_ (by omega)
 have hl:(zf_ 1 2++zf_ N 2++body++rest).length=4+body.length+rest.length:=by simp only [List.length_append];omega
 refine ⟨e1,e2,?_,?_,hl⟩
 ·unfold bd
  rw [e2,List.take_left' (by simp only [List.length_append];omega)]
  exact List.drop_left' (by rw [List.length_append];omega)
 ·exact List.drop_left' (by simp only [List.length_append];omega)
theorem bC_ {l:List OV} {b:List Int} (h:rgM l=true) (hx:∀ o ∈ l,0<=o.2.2.2.1):mdE (meB l++b)=0/\mdL (meB l++b)=l/\mdN (meB l++b)=(meB l).length:=by
 obtain ⟨h1,h2,h3,h4,h5⟩:=Jg_ h
 have hz:=Yi_ (n:=meN l) (by omega)
 have hml:=gc_ l (by omega)
 have e:meB l++b=zf_ 1 2++zf_ (meN l) 2++boO l++(List.replicate (pz (meN l)).toNat 0++b):=by unfold meB;simp only [List.append_assoc]
 obtain ⟨t1,t2,t3,t4,t5⟩:=Hz_ (N:=meN l) (body:=boO l) (rest:=List.replicate (pz (meN l)).toNat 0++b) rfl (by omega)
 rw [<- e] at t1 t2 t3 t4 t5
 have hN:meN l=4+(boO l).length:=rfl
 simp only [List.length_append,List.length_replicate] at t5
 have hm:=U8_ l [] h1 hx h2
 rw [List.nil_append] at hm
 have hZ:mdZ (meB l++b)=true:=by
  unfold mdZ;rw [t2,t4,List.take_left' List.length_replicate];exact gx_ _
 have hE:mdE (meB l++b)=0:=by
  rw [bb_ (by rw [List.length_append];omega) t1 (by rw [t2,List.length_append];omega),t3,hm,hZ];rfl
 refine ⟨hE,?_,?_⟩
 ·unfold mdL;rw [if_pos hE,t3,hm]
 ·unfold mdN;rw [if_pos hE,t2];omega
def hW_:List Int:=[0,1,0,10,128,0,10,2,8,0,0,0,0,0,0,0,9]
def UJ_:List Int:=[0,1,0,10,128,0,26,2,8,0,0,0,0,0,0,0]
def hV_:OV:=(32768,5,false,0,[8,0],[],())
theorem h9_:rgM [hV_]=true/\rgM []=true/\meB []=[0,1,0,4,0,0,0,0]/\meB [hV_]++[9]=hW_/\(meB [hV_]).length=16:=by decide+kernel
theorem Bq_:mdE hW_=0/\mdL hW_=[hV_]/\mdN hW_=16:=by
 obtain ⟨h1,_,_,h4,h5⟩:=h9_
 have:=bC_ (b:=[9]) h1 (fun o ho=>by simp only [List.mem_cons,List.not_mem_nil,or_false] at ho;subst ho;decide)
 rw [h4,h5] at this;exact this
theorem Bo_:bd UJ_=[128,0,26,2,8,0]/\zC_ [128,0,26,2,8,0]=0/\(ckS [] ([]++[vO [128,0,26,2,8,0]])).2=1034/\tT UJ_=1/\tN UJ_=10/\pz 10=6:=by decide+kernel
theorem Bp_:mdE UJ_=1034/\mdL UJ_=[]:=by
 obtain ⟨k1,k2,k3,k4,k5,k6⟩:=Bo_
 have hm:=Ub_ (acc:=[]) (y:=[128,0,26,2,8,0]) (by decide) k2 (by rw [k3];decide)
 have h:=Hy_ (b:=UJ_) (e:=1034) (by decide) k4 (by rw [k5,k6];decide) (by rw [k1,hm];exact k3) (by decide)
 exact ⟨h.1,h.2.1⟩
theorem bw_:okM []/\okM [hV_]:=⟨H8_ h9_.2.1,H8_ h9_.1⟩
def V8_:IR:=
(sq (kr [] [oD 0 (.mov cF)])
(sq (kr [] [oC 10 38 [(.c (.imm Y1 []))],
oM 9 10,
oX 11 9 0,
oX 12 9 1,
oM 1 11,
oM 2 12])
(sq (kr [1,2] [oD 14 (.sliceAll (.int .u8) 17 [(0,1,(.c (.int .u8 0))),(1,1,(.c (.int .u8 1))),(2,1,(.c (.int .u8 0))),(3,1,(.c (.int .u8 10))),(4,1,(.c (.int .u8 128))),(5,1,(.c (.int .u8 0))),(6,1,(.c (.int .u8 10))),(7,1,(.c (.int .u8 2))),(8,1,(.c (.int .u8 8))),(9,1,(.c (.int .u8 0))),(10,1,(.c (.int .u8 0))),(11,1,(.c (.int .u8 0))),(12,1,(.c (.int .u8 0))),(13,1,(.c (.int .u8 0))),(14,1,(.c (.int .u8 0))),(15,1,(.c (.int .u8 0))),(16,1,(.c (.int .u8 9)))]),
oC 15 39 [14],
oM 13 15,
oX 16 13 0,
oX 17 13 1,
oX 18 13 2,
oM 3 16,
oM 4 17,
oM 5 18])
(sq (kr [1,2,3,4,5] [oD 20 (.sliceAll (.int .u8) 16 [(0,1,(.c (.int .u8 0))),(1,1,(.c (.int .u8 1))),(2,1,(.c (.int .u8 0))),(3,1,(.c (.int .u8 10))),(4,1,(.c (.int .u8 128))),(5,1,(.c (.int .u8 0))),(6,1,(.c (.int .u8 26))),(7,1,(.c (.int .u8 2))),(8,1,(.c (.int .u8 8))),(9,1,(.c (.int .u8 0))),(10,1,(.c (.int .u8 0))),(11,1,(.c (.int .u8 0))),(12,1,(.c (.int .u8 0))),(13,1,(.c (.int .u8 0))),(14,1,(.c (.int .u8 0))),(15,1,(.c (.int .u8 0)))]),
oC 21 39 [20],
oM 19 21,
oX 22 19 0,
oX 23 19 1,
oX 24 19 2,
oM 6 22,
oM 7 23,
oM 8 24])
(sq (kr [1,2,3,4,5,8] [oM 25 2,
oB 26 .eql 25 (cI 0),
oM 27 26,
oT 27 28 (.mov 1),
oT 27 29 (.sliceAll (.int .u8) 8 [(0,1,(.c (.int .u8 0))),(1,1,(.c (.int .u8 1))),(2,1,(.c (.int .u8 0))),(3,1,(.c (.int .u8 4))),(4,1,(.c (.int .u8 0))),(5,1,(.c (.int .u8 0))),(6,1,(.c (.int .u8 0))),(7,1,(.c (.int .u8 0)))]),
oT 27 30 (.call false (.f 20) [28,29]),
oP 31 27 30 cF,
oM 32 31,
oT 32 33 (.mov 5),
oT 32 34 (.bin .eql 33 (cI 0)),
oP 35 32 34 cF,
oM 36 35,
oT 36 37 (.mov 4),
oT 36 38 (.bin .eql 37 (cI 16)),
oP 39 36 38 cF,
oM 40 39,
oT 40 41 (.mov 3),
oT 40 42 (.len 41),
oT 40 43 (.bin .eql 42 (cI 1)),
oP 44 40 43 cF,
oM 45 44,
oT 45 46 (.mov 3),
oT 45 47 (.indexSl 6 46 (cI 0)),
oT 45 48 (.fieldAddr 1 47),
oT 45 49 (.load none 48),
oT 45 50 (.bin .eql 49 (cI 5)),
oP 51 45 50 cF,
oM 52 51,
oT 52 53 (.mov 8),
oT 52 54 (.bin .eql 53 (cI 1034)),
oP 55 52 54 cF,
oM 56 55,
oT 56 57 (.mov 3),
oT 56 58 (.call false (.f 40) [57]),
oP 59 56 58 cF,
oM 0 59])
.ret)))))
def Vq_:List RD:=[.tmp 0 true none]
theorem VI_:zq_ Tryz.prog Tryz.f8 V8_ Vq_=true:=by kernel_rfl
def J8_:List AV->List Obj->Option (Prop × AV)
 | [],[]=>some ((True,.bool true))
 | _,_=>none
theorem Y0_:ze_ Tryz.prog 8 (RoF J8_).sum:=by
 refine zk_ Tryz.func8 VI_ (za_ (s:=RoF Q8_) wV_ (za_ (s:=RoF Q9_) wW_ (za_ (s:=RoF ku_) Jz_ (za_ (s:=RoF Qo_) KS_ (zg_ _))))) fun args objs p v e=>?_
 unfold J8_ at e
 split at e
 ·cases e
  refine ⟨rfl,fun hw ho hp=>?_⟩
  clear hw ho
  obtain ⟨e1,e2,e3⟩:=Bq_
  obtain ⟨e4,e5⟩:=Bp_
  obtain ⟨r1,r2,r3,r4,r5⟩:=h9_
  obtain ⟨o1,o2⟩:=bw_
  have n1:meL []=[0,1,0,4,0,0,0,0]:=(if_pos r2).trans r3
  have n2:meE []=0:=if_pos r2
  unfold hW_ at e1 e2 e3
  unfold UJ_ at e4 e5
  repeat'(intro t ht;first|(cases t<;>first|(cases ht;done)|(try simp only[zi_]at ht))|((first|refine zb_ ht ?_|refine ht ?_ ?_|refine ht.1 ?_ ?_|refine ht ?_)<;>clear ht))
  all_goals (try simp only [n1,n2,e1,e2,e3,e4,e5,r1,if_true,reduceCtorEq,not_true_eq_false] at*)
  all_goals first
   | exact True.intro
   | exact o1
   | exact o2
   | exact (by decide)
   | contradiction
   | exact ⟨rfl,by first | rfl | exact True.intro⟩
 ·cases e
def JS_:IR:=
(sq (kr [0,1,2] [oD 6 (.mov cF)])
(sq (sq (kr [0,1,2] [oM 11 0,
oC 12 7 [11],
oD 13 (.un .not 12),
oM 14 13,
oF 14 15 (.mov 1),
oF 14 16 (.call false (.f 7) [15]),
oF 14 17 (.un .not 16),
oP 18 14 cT 17])
(.cond 18
(sq (kr [] [oC 19 8 [],
oM 6 19])
.ret)
.skip))
(sq (kr [0,1,2] [oM 20 0,
oD 21 (.callF (.f 9) [20]),
oM 7 21])
(sq (sq (kr [0,1,2,7] [oM 22 0,
oM 23 7,
oD 24 (.callL (.f 10) [22,23]),
oD 25 (.un .not 24),
oM 26 25,
oF 26 27 (.mov 0),
oF 26 28 (.mov 1),
oF 26 29 (.callL (.f 11) [27,28]),
oF 26 30 (.mov 0),
oF 26 31 (.mov 1),
oF 26 32 (.callL (.f 10) [30,31]),
oF 26 33 (.eqb true 29 32),
oP 34 26 cT 33,
oM 35 34,
oF 35 36 (.mov 0),
oF 35 37 (.mov 7),
oF 35 38 (.callL (.f 11) [36,37]),
oF 35 39 (.un .not 38),
oP 40 35 cT 39])
(.cond 40
(sq (kr [] [oD 6 (.mov cF)])
.ret)
.skip))
(sq (kr [0,2,7] [oM 41 0,
oD 42 (.callF (.f 9) [41]),
oM 8 42])
(sq (sq (.reg [oD 9 (.mov (cI 0))])
(.block 0
(.loop
(sq (sq (kr [0,2,7,8,9] [oM 43 9,
oM 44 7,
oE 45 44,
oB 46 .lss 43 45])
(.cond 46
.skip
(.exit 0)))
(sq (.block 1
(sq (sq (.reg [oD 10 (.mov (cI 0))])
(.block 2
(.loop
(sq (sq (kr [0,2,7,8,9,10] [oM 49 10,
oM 50 7,
oM 51 9,
oI 52 6 50 51,
oA 53 4 52,
oL 54 53,
oE 55 54,
oB 56 .lss 49 55])
(.cond 56
.skip
(.exit 2)))
(sq (.block 3
(kr [0,2,7,8,9,10] [oM 59 7,
oM 60 9,
oI 61 6 59 60,
oA 62 4 61,
oL 63 62,
oM 64 10,
oM 65 2,
oI 66 1 63 64,
oS 1 66 65]))
(kr [0,2,7,8,9,10] [oM 57 10,
oB 58 .add 57 (cI 1),
oM 10 58]))))))
(kr [0,2,7,8,9] [oM 67 7,
oM 68 9,
oI 69 6 67 68,
oA 70 1 69,
oN (.store 1 70 (cI (-1)))])))
(kr [0,2,7,8,9] [oM 47 9,
oB 48 .add 47 (cI 1),
oM 9 48]))))))
(sq (kr [0,8] [oM 71 0,
oM 72 8,
oD 73 (.callL (.f 10) [71,72]),
oM 74 73,
oT 74 75 (.call false (.f 8) []),
oP 76 74 75 cF,
oM 6 76])
.ret)))))))
def JM_:List RD:=[.tmp 6 true none]
theorem JP_:zq_ Tryz.prog Tryz.f3 JS_ JM_=true:=by kernel_rfl
def qT_:List AV->List Obj->Option (Prop × AV)
 | [.imm (.cons (.int .i64) (.cons (.int .i64) (.cons .bool (.cons (.int .u64) (.cons (.sl (.int .u8)) (.cons (.sl (.int .u8)) .nil)))))) l,.imm (.cons (.int .i64) (.cons (.int .i64) (.cons .bool (.cons (.int .u64) (.cons (.sl (.int .u8)) (.cons (.sl (.int .u8)) .nil)))))) b,.int .u8 x],[]=>some ((True,.bool true))
 | _,_=>none
theorem Js_:ze_ Tryz.prog 3 (RoF qT_).sum:=by
 refine zk_ Tryz.func3 JP_ (za_ (s:=RoF Wr_) v8_ (za_ (s:=RoF J8_) Y0_ (za_ (s:=RoF ka_) wX_ (za_ (s:=RoF J2_) YU_ (za_ (s:=RoF KL_) xQ_ (zg_ _)))))) fun args objs p v e=>?_
 unfold qT_ at e
 split at e
 ·rename_i l b x
  cases e
  refine ⟨rfl,fun hw ho hp=>?_⟩
  change List OV at l
  change List OV at b
  have hl:l.length<=maxLen:=(hw (.imm Y1 l) (by simp)).2
  have hlv:∀ o ∈ l,o.2.2.2.2.1.length<=maxLen:=fun o ho=>((hw (.imm Y1 l) (by simp)).1 o ho).2.2.2.2.1.2
  unfold maxLen at hl hlv
  clear hw ho
  by_cases hc:xj_ l=true/\xj_ b=true
  ·obtain ⟨h1,h2⟩:=hc
   obtain ⟨hok,hn⟩:=bL_ h1
   have hd:decide ((l:List OV)=l)=true:=decide_eq_true rfl
   repeat'(intro t ht;first|(cases t<;>first|(cases ht;done)|(try simp only[zi_]at ht;try(exfalso;first|contradiction|omega)))|((first|refine zb_ ht ?_|refine ht ?_ ?_|refine ht.1 ?_ ?_|refine ht ?_)<;>clear ht))
   all_goals (try simp only [h1,h2,hd] at*)
   all_goals first
    | exact True.intro
    | contradiction
    | exact hok
    | (exfalso;simp_all;done)
    | (intro r h1 h2;clear h1;refine h2 ⟨[0,2,7,8,9],Bool × Nat,(fun a=>a.2<=l.length),fun a=>[.imm Y1 l,.int .u8 x,.jsl 0 Y1 l,.jsl 1 Y1 l,.int .i64 a.2],fun a=>[.reg true a.1,.reg true true],fun a=>l.length - a.2,⟨(true,0),Nat.zero_le _,rfl,rfl⟩,?_⟩;clear h2)
   all_goals
    rintro ⟨kn,i⟩ hi
    replace hi:i<=l.length:=hi
    cases kn
   all_goals repeat'(intro t ht;first|(cases t<;>first|(cases ht;done)|(try simp only[zi_]at ht;try(exfalso;first|contradiction|omega)))|((first|refine zb_ ht ?_|refine ht ?_ ?_|refine ht.1 ?_ ?_|refine ht ?_)<;>clear ht))
   all_goals (try generalize hod:(Ty.dflt Y1)=od at*)
   all_goals (try simp only [decide_true] at*)
   all_goals first
    | exact True.intro
    | contradiction
    | exact ⟨rfl,rfl⟩
    | exact ⟨True.intro,True.intro⟩
    | ((try simp only [zo_,zp_,zn_] at*);omega)
    | (intro r h1 h2;clear h1;refine h2 ⟨[0,2,7,8,9,10],Bool × Nat,(fun a=>a.2<=(l.getD i od).2.2.2.2.1.length),fun a=>[.imm Y1 l,.int .u8 x,.jsl 0 Y1 l,.jsl 1 Y1 l,.int .i64 i,.int .i64 a.2],fun a=>[.reg true a.1,.reg true true],fun a=>(l.getD i od).2.2.2.2.1.length - a.2,⟨(false,0),Nat.zero_le _,rfl,rfl⟩,?_⟩;clear h2)
    | (intro r h1 h2;clear h1;refine h2 ⟨[0,2,7,8,9,10],Bool × Nat,(fun a=>a.2<=(l.getD i od).2.2.2.2.1.length),fun a=>[.imm Y1 l,.int .u8 x,.jsl 0 Y1 l,.jsl 1 Y1 l,.int .i64 i,.int .i64 a.2],fun a=>[.reg true a.1,.reg true true],fun a=>(l.getD i od).2.2.2.2.1.length - a.2,⟨(true,0),Nat.zero_le _,rfl,rfl⟩,?_⟩;clear h2)
   all_goals
    rintro ⟨kn2,k⟩ hk
    replace hk:k<=(l.getD i od).2.2.2.2.1.length:=hk
    have hlt:i < l.length:=by omega
    have hln:=hlv _ (Zs_ hlt od)
    cases kn2
   all_goals repeat'(intro t ht;first|(cases t<;>first|(cases ht;done)|(try simp only[zi_]at ht;try(exfalso;first|contradiction|omega)))|((first|refine zb_ ht ?_|refine ht ?_ ?_|refine ht.1 ?_ ?_|refine ht ?_)<;>clear ht))
   all_goals (try simp only [hod,Int.toNat_natCast] at ht ⊢)
   all_goals first
    | exact True.intro
    | contradiction
    | ((try simp only [zo_,zp_,zn_] at*);omega)
    | (simp only [Int.toNat_natCast];omega)
    | (dsimp only;omega)
    | omega
    | (refine ⟨(false,k+1),by dsimp only;omega,by dsimp only;omega,rfl,rfl⟩;done)
    | (refine ⟨(false,i+1),by dsimp only;omega,by dsimp only;omega,rfl,rfl⟩;done)
  ·by_cases h1:xj_ l=true
   ·have h2:¬ xj_ b=true:=fun h=>hc ⟨h1,h⟩
    have h2:xj_ b=false:=by simpa using h2
    repeat'(intro t ht;first|(cases t<;>first|(cases ht;done)|(try simp only[zi_]at ht;try(exfalso;first|contradiction|omega)))|((first|refine zb_ ht ?_|refine ht ?_ ?_|refine ht.1 ?_ ?_|refine ht ?_)<;>clear ht))
    all_goals (try simp only [h1,h2] at*)
    all_goals first
     | exact True.intro
     | contradiction
     | exact ⟨rfl,rfl⟩
     | exact ⟨True.intro,True.intro⟩
     | (exfalso;simp_all;done)
   ·have h1:xj_ l=false:=by simpa using h1
    repeat'(intro t ht;first|(cases t<;>first|(cases ht;done)|(try simp only[zi_]at ht;try(exfalso;first|contradiction|omega)))|((first|refine zb_ ht ?_|refine ht ?_ ?_|refine ht.1 ?_ ?_|refine ht ?_)<;>clear ht))
    all_goals (try simp only [h1] at*)
    all_goals first
     | exact True.intro
     | contradiction
     | exact ⟨rfl,rfl⟩
     | exact ⟨True.intro,True.intro⟩
     | (exfalso;simp_all;done)
 ·cases e
end Go.Eng
