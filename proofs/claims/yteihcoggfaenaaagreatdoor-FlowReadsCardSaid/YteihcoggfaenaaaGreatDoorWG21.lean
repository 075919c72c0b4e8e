/- Parts of the proof: M6, M7, M8, X1, X2, M9, MA, P2, P3, P4, P5, P6. No condition. -/
import Derived.Test.YteihcoggfaenaaaGreatDoorProg
import Derived.Test.YteihcoggfaenaaaGreatDoorWG10
import Derived.KernelRfl
import Derived.Test.YteihcoggfaenaaaGreatDoorWG20
import Derived.Test.YteihcoggfaenaaaGreatDoorWG17
import Derived.Test.YteihcoggfaenaaaGreatDoorWG14
import Derived.Test.YteihcoggfaenaaaGreatDoorWG19
import Derived.Lib.BytesEntry
import Derived.Lib.Walk
import Derived.Laws.Externs
import Derived.Lib.Strings
import Derived.Lib.Slices
import Derived.Test.YteihcoggfaenaaaGreatDoorWG11
import Derived.Test.YteihcoggfaenaaaGreatDoorWG12
namespace Go.Eng
open Go.Proofs
set_option linter.unusedVariables false
set_option linter.unusedSimpArgs false
set_option maxRecDepth 100000
set_option maxHeartbeats 1000000
def vO (y:List Int):OV:=(zu_ y,zz_ y,z5_ y,qf_ y,Zp_ y,Zq_ y,())
def mlG (acc:List OV) (y:List Int):List OV × Int:=
 if y.length=0 then (acc,0) else if ¬ zK_ y=0 then ([],zK_ y) else if ¬ (ckS [] (acc++[vO y])).2=0 then ([],(ckS [] (acc++[vO y])).2) else mlG (acc++[vO y]) (y.drop (max 1 (z9_ y).toNat))
termination_by y.length
decreasing_by all_goals (rw [List.length_drop];omega)
theorem uu_ {acc:List OV} {y:List Int} (h:y.length=0):mlG acc y=(acc,0):=by rw [mlG,if_pos h]
theorem Br_ {acc:List OV} {y:List Int} (h:¬ y.length=0) (h1:¬ zK_ y=0):mlG acc y=([],zK_ y):=by rw [mlG,if_neg h,if_pos h1]
theorem zes_ {acc:List OV} {y:List Int} (h:¬ y.length=0) (h1:zK_ y=0) (h2:¬ (ckS [] (acc++[vO y])).2=0):mlG acc y=([],(ckS [] (acc++[vO y])).2):=by rw [mlG,if_neg h,if_neg (not_not_intro h1),if_pos h2]
theorem uD_ {y:List Int} (hb:∀ x ∈ y,0<=x/\x<=255) (h:zK_ y=0):4<=z9_ y/\z9_ y<=y.length:=by
 obtain ⟨h1,h2,h3,h4⟩:=zac_ hb h
 have:=congrArg List.length h2
 rw [List.length_take] at this
 have hl:4<=(Qg_ (zu_ y) (zz_ y) (z5_ y) (qf_ y) (Zp_ y) (Zq_ y)).length:=by
  have:=zn_ (n:=zu_ y) (w:=2) (by decide)
  unfold Qg_;simp only [List.length_append,List.length_cons];omega
 omega
theorem zer_ {acc:List OV} {y:List Int} (hb:∀ x ∈ y,0<=x/\x<=255) (h:¬ y.length=0) (h1:zK_ y=0) (h2:(ckS [] (acc++[vO y])).2=0):mlG acc y=mlG (acc++[vO y]) (y.drop (z9_ y).toNat):=by
 have hn:=uD_ hb h1
 rw [mlG,if_neg h,if_neg (not_not_intro h1),if_neg (not_not_intro h2),show max 1 (z9_ y).toNat=(z9_ y).toNat by omega]
theorem zkL_ {y:List Int} (h:zK_ y=0):((ZG_ y (zu_ y),ZG_ y (zz_ y),(if zK_ y=0 then z5_ y else false),ZG_ y (qf_ y),Z8_ y (Zp_ y),Z8_ y (Zq_ y),()):OV)=vO y:=by
 unfold ZG_ Z8_ vO;simp only [if_pos h]
def hG_:IR:=
(sq (kr [0] [oD 1 (.boxv 0),
oD 2 (.mov (.c (.undef)))])
(sq (.reg [oD 3 (.mkfn 180 [] [1]),
oM 2 3])
.ret))
def GB_:List RD:=[.tmp 2 true none]
theorem G7_:zm_ Tryz.prog Tryz.f158 hG_ GB_=true:=by kernel_rfl
def w3_:List AV->List Obj->Option (Prop × AV × List Obj)
 | [.imm (.int .u8) b],[]=>some ((True,.fn 180 [] [.ptr 0 0],[.box [.imm (.int .u8) b]]))
 | _,_=>none
theorem u0_:zd_ Tryz.prog 158 (RwF w3_).sum:=by
 refine qa_ Tryz.func158 G7_ (zc_ _) fun args objs p v o e=>?_
 unfold w3_ at e
 split at e
 ·rename_i b
  cases e
  refine ⟨rfl,fun hw ho hp=>?_⟩
  change List Int at b
  repeat'(intro t ht;first|(cases t<;>first|(cases ht;done)|(try simp only[zg_]at ht;try(exfalso;first|contradiction|omega)))|((first|refine zb_ ht ?_|refine ht ?_ ?_|refine ht.1 ?_ ?_|refine ht ?_)<;>clear ht))
  all_goals first
   | exact True.intro
   | exact ⟨rfl,rfl⟩
 ·cases e
def hF_:IR:=
(sq (kr [0] [oD 2 (.box [.nils]),
oD 3 (.box [.int .i64 0])])
(sq (sq (.reg [oM 8 0,
oC 9 158 [8]])
(.block 0
(.rng 9 [10,11] [2,3] 180
(sq (kr [2,3,10,11] [oD 4 (.box [.int .i64 0,.int .i64 0,.kb false,.int .u64 0,.nils,.nils]),
oS 6 4 10])
(.reg [oM 5 11]))
(.block 1
(sq (sq (kr [2,3,4,5] [oM 12 5,
oB 13 .neq 12 (cI 0)])
(.cond 13
(sq (.reg [oM 14 5,
oN (.store 1 2 (.c (.nils))),
oS 1 3 14])
.ret)
.skip))
(sq (.reg [oL 15 2,
oK 16 6 4,
oD 17 (.sliceAll Y1 1 [(0,6,16)]),
oD 18 (.append Y1 80 15 17),
oS 1 2 18])
(sq (kr [2,3] [oL 20 2,
oC 21 119 [20],
oM 19 21,
oX 22 19 0,
oX 23 19 1,
oM 6 22,
oM 7 23])
(sq (kr [2,3,7] [oM 24 7,
oB 25 .neq 24 (cI 0)])
(.cond 25
(sq (.reg [oM 26 7,
oN (.store 1 2 (.c (.nils))),
oS 1 3 26])
.ret)
.skip))))))
(.block 0
(.loop
(sq (sq (kr [0,1] [oL 6 1,
oE 7 6,
oB 8 .gtr 7 (cI 0)])
(.cond 8
.skip
(.exit 0)))
(.block 1
(sq (kr [0,1] [oL 10 1,
oC 11 181 [10],
oM 9 11,
oX 12 9 0,
oX 13 9 1,
oX 14 9 2,
oD 3 (.box [.int .i64 0,.int .i64 0,.kb false,.int .u64 0,.imm (.int .u8) [],.imm (.int .u8) []]),
oS 6 3 12,
oM 4 13,
oM 5 14])
(sq (sq (.keep [0,1,3,4,5]
(.yld [oM 15 0,
oK 16 6 3,
oM 17 5] (some 18) (.t 15) [(.t 16),(.t 17)] [0,1,4,5] [oD 19 (.un .not 18),
oM 20 19,
oF 20 21 (.mov 5),
oF 20 22 (.bin .neq 21 (cI 0)),
oP 23 20 cT 22]))
(.cond 23
.ret
.skip))
(kr [0,1,4] [oL 24 1,
oM 25 4,
oD 26 (.slice 1 24 (some 25) none none),
oS 1 1 26]))))))))))
(sq (kr [2,3] [oL 27 2,
oS 1 2 27,
oN (.store 1 3 (cI 0))])
.ret)))
def GA_:List RD:=[.cell 2 none true [(some Y1)],.cell 3 none true []]
theorem G6_:zm_ Tryz.prog Tryz.f132 hF_ GA_=true:=by kernel_rfl
def w2_:List AV->List Obj->Option (Prop × AV)
 | [.imm (.int .u8) b],[]=>some ((b.length<=100000000,.tup [.imm Y1 (mlG [] b).1,.int .i64 (mlG [] b).2]))
 | _,_=>none
theorem uZ_:zd_ Tryz.prog 132 (RoF w2_).sum:=by
 refine zi_ Tryz.func132 G6_ (za_ (s:=RoF KM_) xa_ (za_ (s:=RwF w3_) u0_ (za_ (s:=RoF KO_) xc_ (zc_ _)))) fun args objs p v e=>?_
 unfold w2_ at e
 split at e
 ·rename_i b
  cases e
  refine ⟨rfl,fun hw ho hp=>?_⟩
  change List Int at b
  have hb:∀ x ∈ (b:List Int),(0:Int)<=x/\x<=255:=fun x hx=>(hw (.imm (.int .u8) b) (by simp)).1 x hx
  clear hw ho
  repeat'(intro t ht;first|(cases t<;>first|(cases ht;done)|(try simp only[zg_]at ht;try(exfalso;first|contradiction|omega)))|((first|refine zb_ ht ?_|refine ht ?_ ?_|refine ht.1 ?_ ?_|refine ht ?_)<;>clear ht))
  all_goals first
   | exact True.intro
   | (refine .inl fun lr ln=>?_)
  repeat'(intro t ht;first|(cases t<;>first|(cases ht;done)|(try simp only[zg_]at ht;try(exfalso;first|contradiction|omega)))|((first|refine zb_ ht ?_|refine ht ?_ ?_|refine ht.1 ?_ ?_|refine ht ?_)<;>clear ht))
  all_goals first
   | exact True.intro
   | (intro r h1 h2;clear h1;refine h2 ⟨[0,1],Option (List OV × List Int),(fun a=>match a with | none=>True | some a=>a.1.length+a.2.length<=b.length/\(∀ x ∈ a.2,0<=x/\x<=255)/\mlG [] b=mlG a.1 a.2),(fun a=>[.yv ln,.ptr 0 0]),(fun a=>match a with | none=>[.box [.imm (.int .u8) b],.box [.nils],.box [.int .i64 0],.lrec lr 0] | some a=>[.box [.imm (.int .u8) a.2],.box [.own 4],.box [.int .i64 0],.lrec lr 0,.row false Y1 a.1]),(fun a=>match a with | none=>b.length+1 | some a=>a.2.length),⟨none,True.intro,rfl,rfl⟩,?_⟩;clear h2)
  rintro (_ | ⟨acc,y⟩) hJ
  ·clear hJ
   repeat'(intro t ht;first|(cases t<;>first|(cases ht;done)|(try simp only[zg_]at ht;try(exfalso;first|contradiction|omega)))|((first|refine zb_ ht ?_|refine ht ?_ ?_|refine ht.1 ?_ ?_|refine ht ?_)<;>clear ht))
   all_goals (try dsimp only at*)
   all_goals first
    | exact True.intro
    | ((try simp only [zk_,zl_,zj_] at*);omega)
    | exact ⟨rfl,rfl⟩
    | (rw [uu_ (by omega)];exact ⟨rfl,rfl⟩)
    | (simp only [zX_,List.length_cons,List.length_nil];constructor<;>omega)
    | (have h0:zK_ b=0:=by assumption
       have hg:=uD_ hb h0
       have e1:ZG_ b (z9_ b)=z9_ b:=if_pos h0
       have hv:=zkL_ h0
       first
        | (rw [e1];constructor<;>omega)
        | (have hc:¬ (ckS [] ([]++[(ZG_ b (zu_ b),ZG_ b (zz_ b),if zK_ b=0 then z5_ b else false,ZG_ b (qf_ b),Z8_ b (Zp_ b),Z8_ b (Zq_ b),())])).2=0:=by assumption
           rw [hv] at hc
           have hm:=zes_ (acc:=[]) (by omega) h0 hc
           rw [hm,<- hv];exact ⟨rfl,rfl⟩)
        | (have hc:(ckS [] ([]++[(ZG_ b (zu_ b),ZG_ b (zz_ b),if zK_ b=0 then z5_ b else false,ZG_ b (qf_ b),Z8_ b (Zp_ b),Z8_ b (Zq_ b),())])).2=0:=by assumption
           rw [hv] at hc
           have hm:=zer_ (acc:=[]) hb (by omega) h0 hc
           refine ⟨some ([]++[vO b],b.drop (z9_ b).toNat),⟨?_,fun x hx=>hb x (List.mem_of_mem_drop hx),hm⟩,?_,rfl,?_⟩
           ·simp only [List.length_append,List.length_cons,List.length_nil,List.length_drop];omega
           ·dsimp only;rw [List.length_drop];omega
           ·dsimp only;rw [e1,<- hv];rfl))
    | (have h0:¬ zK_ b=0:=by assumption
       rw [Br_ (by omega) h0];exact ⟨rfl,rfl⟩)
  ·obtain ⟨j1,j2,j3⟩:=hJ
   dsimp only at j1 j2 j3
   repeat'(intro t ht;first|(cases t<;>first|(cases ht;done)|(try simp only[zg_]at ht;try(exfalso;first|contradiction|omega)))|((first|refine zb_ ht ?_|refine ht ?_ ?_|refine ht.1 ?_ ?_|refine ht ?_)<;>clear ht))
   all_goals (try dsimp only at*)
   all_goals first
    | exact True.intro
    | ((try simp only [zk_,zl_,zj_] at*);omega)
    | exact ⟨rfl,rfl⟩
    | (rw [j3,uu_ (by omega)];exact ⟨rfl,rfl⟩)
    | (simp only [zX_,List.length_cons,List.length_nil];constructor<;>omega)
    | (have h0:zK_ y=0:=by assumption
       have hg:=uD_ j2 h0
       have e1:ZG_ y (z9_ y)=z9_ y:=if_pos h0
       have hv:=zkL_ h0
       first
        | (rw [e1];constructor<;>omega)
        | (have hc:¬ (ckS [] (acc++[(ZG_ y (zu_ y),ZG_ y (zz_ y),if zK_ y=0 then z5_ y else false,ZG_ y (qf_ y),Z8_ y (Zp_ y),Z8_ y (Zq_ y),())])).2=0:=by assumption
           rw [hv] at hc
           have hm:=zes_ (acc:=acc) (by omega) h0 hc
           rw [j3,hm,<- hv];exact ⟨rfl,rfl⟩)
        | (have hc:(ckS [] (acc++[(ZG_ y (zu_ y),ZG_ y (zz_ y),if zK_ y=0 then z5_ y else false,ZG_ y (qf_ y),Z8_ y (Zp_ y),Z8_ y (Zq_ y),())])).2=0:=by assumption
           rw [hv] at hc
           have hm:=zer_ (acc:=acc) j2 (by omega) h0 hc
           refine ⟨some (acc++[vO y],y.drop (z9_ y).toNat),⟨?_,fun x hx=>j2 x (List.mem_of_mem_drop hx),j3.trans hm⟩,?_,rfl,?_⟩
           ·simp only [List.length_append,List.length_cons,List.length_nil,List.length_drop];omega
           ·dsimp only;rw [List.length_drop];omega
           ·dsimp only;rw [e1,<- hv];rfl))
    | (have h0:¬ zK_ y=0:=by assumption
       rw [j3,Br_ (by omega) h0];exact ⟨rfl,rfl⟩)
 ·cases e
def WV_:IR:=
(sq (kr [0] [oD 2 (.mov (.c (.imm (.int .u8) [])))])
(sq (sq (.reg [oM 3 0,
oC 4 43 [3],
oB 5 .neq 4 (cI 0)])
(.cond 5
(sq (.reg [oD 2 (.mov (.c (.imm (.int .u8) [])))])
.ret)
.skip))
(sq (kd [0] [(oM 6 0,[]),
(oD 7 (.nilck 6),[]),
(oA 8 0 7,[]),
(oL 9 8,[]),
(oM 10 0,[0,0,0,0]),
(oD 11 (.nilck 10),[1,0,0,0]),
(oA 12 1 11,[2,0,0,0]),
(oL 13 12,[3,0,0,0]),
(oD 14 (.slice 1 9 (some 13) none none),[]),
(oC 15 67 [14],[]),
(oM 2 15,[])])
.ret)))
def Wq_:List RD:=[.tmp 2 true (some (.int .u8))]
theorem WG_:zm_ Tryz.prog Tryz.f96 WV_ Wq_=true:=by kernel_rfl
def q0_:List AV->List Obj->Option (Prop × AV)
 | [.ptr 0 0],[.box [.imm (.int .u8) b,.int .i64 p,.int .i64 sh,.int .i64 od,.int .i64 e,.bool true]]=>some ((0<=p/\p<=b.length/\b.length<=140737488355328,.imm (.int .u8) (if e=0 then b.drop p.toNat else [])))
 | _,_=>none
theorem J6_:zd_ Tryz.prog 96 (RoF q0_).sum:=by
 refine zi_ Tryz.func96 WG_ (za_ (s:=RoF zp_) zq_ (za_ (s:=RoF qx_) Qx_ (zc_ _))) fun args objs p v e=>?_
 unfold q0_ at e
 split at e
 ·rename_i b p sh od e
  cases e
  refine ⟨rfl,fun hw ho hp=>?_⟩
  change List Int at b
  clear hw ho
  obtain ⟨h1,h2,h3⟩:=hp
  repeat'(intro t ht;first|(cases t<;>first|(cases ht;done)|(try simp only[zg_]at ht;try(exfalso;first|contradiction|omega)))|((first|refine zb_ ht ?_|refine ht ?_ ?_|refine ht.1 ?_ ?_|refine ht ?_)<;>clear ht))
  all_goals first
   | exact True.intro
   | (rw [List.length_drop];omega)
   | ((try simp only [zk_,zl_,zj_] at*);omega)
   | omega
   | (rw [if_pos (by assumption)];exact ⟨rfl,rfl⟩)
   | (rw [if_neg (by assumption)];exact ⟨rfl,rfl⟩)
 ·cases e
theorem get2 (b:List Int):Zy_ [2] b=if b.length < 2 then ([],1) else ([Zd_ (b.take 2)],0):=by
 have hr:Zb_ [2]=true:=by decide
 unfold Zy_
 rw [if_pos hr]
 have a2:zr_ 2=2:=by decide
 have t2:Int.toNat 2=2:=rfl
 have p2:(0:Int) < 2:=by decide
 simp only [ZE_,a2,t2,if_pos p2]
 by_cases h:b.length < 2
 ·rw [if_pos h,if_pos (by omega)]
 ·rw [if_neg h,if_neg (by omega)];rfl
theorem Bn_ {b:List Int} {p sh od:Int} (hp:0<=p) (h:p+2<=b.length):Yn_ 2 b p 0=Zd_ ((b.drop p.toNat).take 2)/\xD_ 2 b p 0=p+2/\XT_ 2 b p sh od 0=0:=by
 have e:Zy_ [2] (b.drop p.toNat)=([Zd_ ((b.drop p.toNat).take 2)],0):=by
  rw [get2,if_neg (by rw [List.length_drop];omega)]
 have es:zD_ [2]=2:=by decide
 unfold Yn_ xD_ XT_ QR_ kC_ Kg_ zG_ zQ_
 rw [e,es];exact ⟨rfl,rfl,rfl⟩
theorem zfA_ {b:List Int} {p sh od:Int} (hp:0<=p/\p<=b.length) (h:¬ p+2<=b.length):Yn_ 2 b p 0=0/\xD_ 2 b p 0=p/\XT_ 2 b p sh od 0=sh:=by
 have e:Zy_ [2] (b.drop p.toNat)=([],1):=by
  rw [get2,if_pos (by rw [List.length_drop];omega)]
 unfold Yn_ xD_ XT_ QR_ kC_ Kg_ zG_ zQ_
 rw [e];exact ⟨rfl,rfl,rfl⟩
theorem zjS_ {b:List Int} {p sh od e:Int} (he:e ≠ 0):Yn_ 2 b p e=0/\xD_ 2 b p e=p/\XT_ 2 b p sh od e=e:=by
 unfold Yn_ xD_ XT_ QR_ kC_ Kg_
 rw [if_neg he,if_neg he,if_neg he];exact ⟨rfl,rfl,rfl⟩
theorem zhp_ {b:List Int} {sh od:Int} (hs:sh ≠ 0):
 (¬ b.length < 4->Yn_ 2 b 0 0=tT b/\xD_ 2 b 0 0=2/\XT_ 2 b 0 sh od 0=0/\Yn_ 2 b 2 0=tN b/\xD_ 2 b 2 0=4/\XT_ 2 b 2 sh od 0=0)/\
 (b.length < 4->Yn_ 2 b (xD_ 2 b 0 0) (XT_ 2 b 0 sh od 0)=0/\XT_ 2 b (xD_ 2 b 0 0) sh od (XT_ 2 b 0 sh od 0)=sh/\0<=xD_ 2 b 0 0/\xD_ 2 b 0 0<=b.length):=by
 constructor
 ·intro h
  obtain ⟨a1,a2,a3⟩:=Bn_ (b:=b) (p:=0) (sh:=sh) (od:=od) (by decide) (by omega)
  obtain ⟨b1,b2,b3⟩:=Bn_ (b:=b) (p:=2) (sh:=sh) (od:=od) (by decide) (by omega)
  exact ⟨a1,a2,a3,b1,b2,b3⟩
 ·intro h
  by_cases h2:b.length < 2
  ·obtain ⟨a1,a2,a3⟩:=zfA_ (b:=b) (p:=0) (sh:=sh) (od:=od) ⟨by decide,by omega⟩ (by omega)
   rw [a2,a3]
   obtain ⟨b1,b2,b3⟩:=zjS_ (b:=b) (p:=0) (sh:=sh) (od:=od) hs
   exact ⟨b1,b3,by decide,by omega⟩
  ·obtain ⟨a1,a2,a3⟩:=Bn_ (b:=b) (p:=0) (sh:=sh) (od:=od) (by decide) (by omega)
   rw [a2,a3]
   obtain ⟨b1,b2,b3⟩:=zfA_ (b:=b) (p:=0+2) (sh:=sh) (od:=od) ⟨by decide,by omega⟩ (by omega)
   exact ⟨b1,b3,by decide,by omega⟩
theorem zjX_ {k p sh:Int} {b:List Int} (hk:1<=k/\k<=7) (hp:0<=p) (h:p+k<=b.length):kC_ [0 - k] b p 0=(if zT_ ((b.drop p.toNat).take k.toNat)=true then p+k else p)/\Kg_ [0 - k] b p sh sh 0=(if zT_ ((b.drop p.toNat).take k.toNat)=true then 0 else sh):=by
 have hr:Zb_ [0 - k]=true:=by
  rw [Zj_];refine ⟨by simp,fun n hn=>?_⟩
  simp only [List.mem_cons,List.not_mem_nil,or_false] at hn
  subst hn;omega
 have ha:zr_ (0 - k)=k:=by unfold zr_;split<;>omega
 have hl:(b.drop p.toNat).length=b.length - p.toNat:=List.length_drop
 have e:Zy_ [0 - k] (b.drop p.toNat)=([],if zT_ ((b.drop p.toNat).take k.toNat)=true then 0 else 2):=by
  unfold Zy_;rw [if_pos hr]
  simp only [ZE_,ha]
  rw [if_neg (by omega),if_neg (by omega)]
  split<;>rfl
 have es:zD_ [0 - k]=k:=by
  unfold zD_;rw [if_pos hr];simp only [List.map_cons,List.map_nil,List.sum_cons,List.sum_nil,ha];omega
 unfold kC_ Kg_ zQ_
 rw [e,es]
 cases hz:zT_ ((b.drop p.toNat).take k.toNat) with
 | true=>exact ⟨rfl,rfl⟩
 | false=>exact ⟨rfl,rfl⟩
def mdZ (b:List Int):Bool:=zT_ ((b.drop (tN b).toNat).take (pz (tN b)).toNat)
def mdE (b:List Int):Int:=if b.length < 4 then 1026 else if ¬ tT b=1 then 1025 else if tN b < 4\/65528 < tN b\/b.length < tN b+pz (tN b) then 1026 else if ¬ (mlG [] (bd b)).2=0 then (mlG [] (bd b)).2 else if mdZ b=true then 0 else 1026
def mdL (b:List Int):List OV:=if mdE b=0 then (mlG [] (bd b)).1 else []
def mdN (b:List Int):Int:=if mdE b=0 then tN b+pz (tN b) else 0
theorem jb_ {b:List Int} {e:Int} (h:mdE b=e) (h0:¬ e=0):mdL b=[]/\mdN b=0:=by
 unfold mdL mdN;rw [h,if_neg h0,if_neg h0];exact ⟨rfl,rfl⟩
def uf_:IR:=
(sq (kr [0] [oD 2 (.mov (.c (.imm Y1 []))),
oD 3 (.mov (cI 0)),
oD 4 (.mov (cI 0))])
(sq (.reg [oM 12 0,
oC 13 41 [12,(cI 1026),(cI 1026)],
oM 5 13])
(sq (kr [0,5] [oM 14 5,
oC 15 131 [14,(cI 2)],
oM 16 5,
oC 17 131 [16,(cI 2)],
oD 18 (.conv .i64 17),
oM 6 15,
oM 7 18])
(sq (.block 0
(sq (kr [0,5,6,7] [oM 20 5,
oC 21 43 [20],
oB 22 .neq 21 (cI 0),
oM 19 22])
(.cond 19
(sq (kr [5] [oM 23 5,
oC 24 43 [23],
oD 2 (.mov (.c (.imm Y1 []))),
oD 3 (.mov (cI 0)),
oM 4 24])
.ret)
(sq (.reg [oM 26 6,
oB 27 .neq 26 (.c (.int .u64 1)),
oM 25 27])
(.cond 25
(sq (kr [] [oD 2 (.mov (.c (.imm Y1 []))),
oD 3 (.mov (cI 0)),
oD 4 (.mov (cI 1025))])
.ret)
(sq (kr [0,5,7] [oM 29 7,
oB 30 .lss 29 (cI 4),
oM 31 30,
oF 31 32 (.mov 7),
oF 31 33 (.bin .gtr 32 (cI 65528)),
oP 34 31 cT 33,
oM 35 34,
oF 35 36 (.mov 7),
oF 35 37 (.mov 7),
oF 35 38 (.call false (.f 72) [37]),
oF 35 39 (.bin .add 36 38),
oF 35 40 (.mov 0),
oF 35 41 (.len 40),
oF 35 42 (.bin .gtr 39 41),
oP 43 35 cT 42,
oM 28 43])
(.cond 28
(sq (kr [] [oD 2 (.mov (.c (.imm Y1 []))),
oD 3 (.mov (cI 0)),
oD 4 (.mov (cI 1026))])
.ret)
.skip)))))))
(sq (kr [5,7] [oM 45 5,
oM 46 7,
oB 47 .sub 46 (cI 4),
oC 48 98 [45,47],
oC 49 132 [48],
oM 44 49,
oX 50 44 0,
oX 51 44 1,
oM 8 50,
oM 9 51])
(sq (sq (kr [5,7,8,9] [oM 52 9,
oB 53 .neq 52 (cI 0)])
(.cond 53
(sq (.reg [oM 54 9,
oD 2 (.mov (.c (.imm Y1 []))),
oD 3 (.mov (cI 0)),
oM 4 54])
.ret)
.skip))
(sq (sq (kr [5,7,8] [oM 55 7,
oC 56 72 [55],
oM 10 56])
(sq (.reg [oM 57 10,
oB 58 .gtr 57 (cI 0)])
(.cond 58
(kr [5,8,10] [oM 59 5,
oM 60 10,
oD 61 (.un .neg 60),
oD 62 (.sliceAll (.int .i64) 1 [(0,1,61)]),
oC 63 42 [59,62]])
.skip)))
(sq (sq (.reg [oM 64 5,
oC 65 43 [64],
oM 11 65])
(sq (kr [5,8,11] [oM 66 11,
oB 67 .neq 66 (cI 0)])
(.cond 67
(sq (.reg [oM 68 11,
oD 2 (.mov (.c (.imm Y1 []))),
oD 3 (.mov (cI 0)),
oM 4 68])
.ret)
.skip)))
(sq (kr [5,8] [oM 69 8,
oM 70 5,
oC 71 133 [70],
oM 2 69,
oM 3 71,
oD 4 (.mov (cI 0))])
.ret)))))))))
def VP_:List RD:=[.tmp 2 true (some Y1),.tmp 3 true none,.tmp 4 true none]
theorem V1_:zm_ Tryz.prog Tryz.f97 uf_ VP_=true:=by kernel_rfl
def jn_:List AV->List Obj->Option (Prop × AV)
 | [.imm (.int .u8) b],[]=>some ((b.length<=100000000,.tup [.imm Y1 (mdL b),.int .i64 (mdN b),.int .i64 (mdE b)]))
 | _,_=>none
theorem YW_:zd_ Tryz.prog 97 (RoF jn_).sum:=by
 refine zi_ Tryz.func97 V1_ (za_ (s:=RwF ZP_) ZQ_ (za_ (s:=RwF Z9_) kn_ (za_ (s:=RoF zp_) zq_ (za_ (s:=RoF kY_) Wb_ (za_ (s:=RwF zN_) z4_ (za_ (s:=RoF w2_) uZ_ (za_ (s:=RwF z1_) Zf_ (za_ (s:=RoF ZW_) qL_ (zc_ _))))))))) fun args objs p v e=>?_
 unfold jn_ at e
 split at e
 ·rename_i b
  cases e
  refine ⟨rfl,fun hw ho hp=>?_⟩
  change List Int at b
  have hb:∀ x ∈ (b:List Int),(0:Int)<=x/\x<=255:=fun x hx=>(hw (.imm (.int .u8) b) (by simp)).1 x hx
  clear hw ho
  have hn2:0<=tN b/\tN b<=65535:=jI_ (a:=2) hb
  have hz:=Ve_ hn2.1
  obtain ⟨T1,T2⟩:=zhp_ (b:=b) (sh:=1026) (od:=1026) (by decide)
  by_cases h4:b.length < 4
  ·obtain ⟨n1,n2,n3,n4⟩:=T2 h4
   have hE:mdE b=1026:=if_pos h4
   obtain ⟨m1,m2⟩:=jb_ hE (by decide)
   rw [m1,m2,hE]
   repeat'(intro t ht;first|(cases t<;>first|(cases ht;done)|(try simp only[zg_]at ht))|((first|refine zb_ ht ?_|refine ht ?_ ?_|refine ht.1 ?_ ?_|refine ht ?_)<;>clear ht))
   all_goals (try simp only [n1,n2,Bt_,Bv_] at*)
   all_goals first
    | exact True.intro
    | exact ⟨n3,n4,by omega⟩
    | omega
    | exact ⟨by decide,by omega,by omega⟩
    | exact ⟨rfl,by first | rfl | exact True.intro⟩
    | exact ⟨True.intro,True.intro⟩
    | (exfalso;simp_all;done)
  ·obtain ⟨n1,n2,n3,n4,n5,n6⟩:=T1 h4
   by_cases ht:tT b=1
   ·by_cases hr:tN b < 4\/65528 < tN b\/b.length < tN b+pz (tN b)
    ·have hE:mdE b=1026:=by unfold mdE;rw [if_neg h4,if_neg (not_not_intro ht),if_pos hr]
     obtain ⟨m1,m2⟩:=jb_ hE (by decide)
     rw [m1,m2,hE]
     repeat'(intro t ht;first|(cases t<;>first|(cases ht;done)|(try simp only[zg_]at ht))|((first|refine zb_ ht ?_|refine ht ?_ ?_|refine ht.1 ?_ ?_|refine ht ?_)<;>clear ht))
     all_goals (try simp only [n1,n2,n3,n4,n5,n6,ht] at*)
     all_goals first
      | exact True.intro
      | contradiction
      | omega
      | ((try simp only [zk_,zl_,zj_] at*);omega)
      | exact ⟨by decide,by omega,by omega⟩
      | exact ⟨rfl,by first | rfl | exact True.intro⟩
      | exact ⟨True.intro,True.intro⟩
      | (exfalso;omega)
    ·have hE0:mdE b=if ¬ (mlG [] (bd b)).2=0 then (mlG [] (bd b)).2 else if mdZ b=true then 0 else 1026:=by unfold mdE;rw [if_neg h4,if_neg (not_not_intro ht),if_neg hr]
     obtain ⟨k1,k2,k3⟩:=JW_ (n:=tN b - 4) (p:=4) (sh:=1026) (b:=b) (by omega) (by omega)
     have k4:(b.take (4+(tN b - 4)).toNat).drop (4:Int).toNat=bd b:=by unfold bd;rw [show 4+(tN b - 4)=tN b by omega];rfl
     rw [k4] at k1
     have k5:(4:Int)+(tN b - 4)=tN b:=by omega
     rw [k5] at k2
     have hbl:=gN_ hb
     by_cases hg:(mlG [] (bd b)).2=0
     ·rw [if_neg (not_not_intro hg)] at hE0
      by_cases hk:0 < pz (tN b)
      ·obtain ⟨r1,r2⟩:=zjX_ (sh:=1026) (b:=b) (p:=tN b) (k:=pz (tN b)) (by omega) (by omega) (by omega)
       have hZ:zT_ ((b.drop (tN b).toNat).take (pz (tN b)).toNat)=mdZ b:=rfl
       rw [hZ] at r1 r2
       cases hz0:mdZ b with
       | true=>
         rw [hz0] at hE0 r1 r2
         rw [if_pos rfl] at r1 r2 hE0
         have m1:mdL b=(mlG [] (bd b)).1:=if_pos hE0
         have m2:mdN b=tN b+pz (tN b):=if_pos hE0
         rw [m1,m2,hE0]
         repeat'(intro t ht;first|(cases t<;>first|(cases ht;done)|(try simp only[zg_]at ht))|((first|refine zb_ ht ?_|refine ht ?_ ?_|refine ht.1 ?_ ?_|refine ht ?_)<;>clear ht))
         all_goals (try simp only [n1,n2,n3,n4,n5,n6,ht,k1,k2,k3,hg,r1,r2] at*)
         all_goals first
          | exact True.intro
          | contradiction
          | omega
          | ((try simp only [zk_,zl_,zj_] at*);omega)
          | exact ⟨by omega,by omega,by omega,by decide⟩
          | exact ⟨by omega,by omega,by omega⟩
          | exact ⟨rfl,by first | rfl | exact True.intro⟩
          | exact ⟨True.intro,True.intro⟩
          | (exfalso;omega)
       | false=>
         rw [hz0] at hE0 r1 r2
         rw [if_neg (by decide)] at r1 r2 hE0
         obtain ⟨m1,m2⟩:=jb_ hE0 (by decide)
         rw [m1,m2,hE0]
         repeat'(intro t ht;first|(cases t<;>first|(cases ht;done)|(try simp only[zg_]at ht))|((first|refine zb_ ht ?_|refine ht ?_ ?_|refine ht.1 ?_ ?_|refine ht ?_)<;>clear ht))
         all_goals (try simp only [n1,n2,n3,n4,n5,n6,ht,k1,k2,k3,hg,r1,r2] at*)
         all_goals first
          | exact True.intro
          | contradiction
          | omega
          | ((try simp only [zk_,zl_,zj_] at*);omega)
          | exact ⟨by omega,by omega,by omega,by decide⟩
          | exact ⟨by omega,by omega,by omega⟩
          | exact ⟨rfl,by first | rfl | exact True.intro⟩
          | exact ⟨True.intro,True.intro⟩
          | (exfalso;omega)
      ·have hk0:pz (tN b)=0:=by omega
       have hz0:mdZ b=true:=by unfold mdZ;rw [hk0];rfl
       rw [hz0,if_pos rfl] at hE0
       have m1:mdL b=(mlG [] (bd b)).1:=if_pos hE0
       have m2:mdN b=tN b:=by have:mdN b=tN b+pz (tN b):=if_pos hE0;omega
       rw [m1,m2,hE0]
       repeat'(intro t ht;first|(cases t<;>first|(cases ht;done)|(try simp only[zg_]at ht))|((first|refine zb_ ht ?_|refine ht ?_ ?_|refine ht.1 ?_ ?_|refine ht ?_)<;>clear ht))
       all_goals (try simp only [n1,n2,n3,n4,n5,n6,ht,k1,k2,k3,hg] at*)
       all_goals first
        | exact True.intro
        | contradiction
        | omega
        | ((try simp only [zk_,zl_,zj_] at*);omega)
        | exact ⟨by omega,by omega,by omega,by decide⟩
        | exact ⟨by omega,by omega,by omega⟩
        | exact ⟨rfl,by first | rfl | exact True.intro⟩
        | exact ⟨True.intro,True.intro⟩
        | (exfalso;omega)
     ·rw [if_pos hg] at hE0
      obtain ⟨m1,m2⟩:=jb_ hE0 hg
      rw [m1,m2,hE0]
      repeat'(intro t ht;first|(cases t<;>first|(cases ht;done)|(try simp only[zg_]at ht))|((first|refine zb_ ht ?_|refine ht ?_ ?_|refine ht.1 ?_ ?_|refine ht ?_)<;>clear ht))
      all_goals (try simp only [n1,n2,n3,n4,n5,n6,ht,k1,k2,k3] at*)
      all_goals first
       | exact True.intro
       | contradiction
       | omega
       | ((try simp only [zk_,zl_,zj_] at*);omega)
       | exact ⟨by omega,by omega,by omega,by decide⟩
       | exact ⟨by omega,by omega,by omega⟩
       | exact ⟨rfl,by first | rfl | exact True.intro⟩
       | exact ⟨True.intro,True.intro⟩
       | (exfalso;omega)
   ·have hE:mdE b=1025:=by unfold mdE;rw [if_neg h4,if_pos ht]
    obtain ⟨m1,m2⟩:=jb_ hE (by decide)
    rw [m1,m2,hE]
    repeat'(intro t ht;first|(cases t<;>first|(cases ht;done)|(try simp only[zg_]at ht))|((first|refine zb_ ht ?_|refine ht ?_ ?_|refine ht.1 ?_ ?_|refine ht ?_)<;>clear ht))
    all_goals (try simp only [n1,n2,n3,n4,n5,n6] at*)
    all_goals first
     | exact True.intro
     | contradiction
     | omega
     | ((try simp only [zk_,zl_,zj_] at*);omega)
     | exact ⟨by decide,by omega,by omega⟩
     | exact ⟨rfl,by first | rfl | exact True.intro⟩
     | exact ⟨True.intro,True.intro⟩
     | (exfalso;omega)
 ·cases e
def mtL (b:List Int) (p e:Int):List OV:=if e=0 then mdL (b.drop p.toNat) else []
def mtP (b:List Int) (p e:Int):Int:=if e=0 then p+mdN (b.drop p.toNat) else p
def mtE (b:List Int) (p e:Int):Int:=if e=0 then mdE (b.drop p.toNat) else e
theorem U0_ (b:List Int) (hb:∀ x ∈ b,0<=x/\x<=255):0<=mdN b/\mdN b<=b.length:=by
 have hn2:0<=tN b/\tN b<=65535:=jI_ (a:=2) hb
 have hz:=Ve_ hn2.1
 unfold mdN;split
 ·rename_i h
  unfold mdE at h
  split at h
  ·cases h
  ·split at h
   ·cases h
   ·split at h
    ·cases h
    ·omega
 ·omega
def hH_:IR:=
(sq (kr [0] [oD 2 (.mov (.c (.imm Y1 [])))])
(sq (sq (.reg [oM 7 0,
oC 8 43 [7],
oB 9 .neq 8 (cI 0)])
(.cond 9
(sq (.reg [oD 2 (.mov (.c (.imm Y1 [])))])
.ret)
.skip))
(sq (.reg [oM 10 0,
oC 11 96 [10],
oM 3 11])
(sq (kr [0,3] [oM 13 3,
oC 14 97 [13],
oM 12 14,
oX 15 12 0,
oX 16 12 1,
oX 17 12 2,
oM 4 15,
oM 5 16,
oM 6 17])
(sq (kr [0,4,5,6] [oM 18 0,
oM 19 6,
oC 20 44 [18,19]])
(sq (.reg [oM 21 0,
oM 22 5,
oC 23 98 [21,22]])
(sq (.reg [oM 24 4,
oM 2 24])
.ret)))))))
def GC_:List RD:=[.tmp 2 true (some Y1)]
theorem G8_:zm_ Tryz.prog Tryz.f45 hH_ GC_=true:=by kernel_rfl
def KQ_:List AV->List Obj->Option (Prop × AV × List Obj)
 | [.ptr 0 0],[.box [.imm (.int .u8) b,.int .i64 p,.int .i64 sh,.int .i64 od,.int .i64 e,.bool true]]=>some ((0<=p/\p<=b.length/\b.length<=100000000/\sh ≠ 0,.imm Y1 (mtL b p e),[.box [.imm (.int .u8) b,.int .i64 (mtP b p e),.int .i64 sh,.int .i64 od,.int .i64 (mtE b p e),.bool true]]))
 | _,_=>none
theorem xe_:zd_ Tryz.prog 45 (RwF KQ_).sum:=by
 refine qa_ Tryz.func45 G8_ (za_ (s:=RoF zp_) zq_ (za_ (s:=RoF q0_) J6_ (za_ (s:=RoF jn_) YW_ (za_ (s:=RwF zs_) zt_ (za_ (s:=RwF zN_) z4_ (zc_ _)))))) fun args objs p v o e=>?_
 unfold KQ_ at e
 split at e
 ·rename_i b p sh od e
  cases e
  refine ⟨rfl,fun hw ho hp=>?_⟩
  change List Int at b
  have hb:∀ x ∈ (b:List Int),(0:Int)<=x/\x<=255:=fun x hx=>((ho _ (List.mem_cons_self ..)) (.imm (.int .u8) b) (by simp)).1 x hx
  clear hw ho
  obtain ⟨h1,h2,h3,h4⟩:=hp
  have hbd:∀ x ∈ b.drop p.toNat,(0:Int)<=x/\x<=255:=fun x hx=>hb x (List.mem_of_mem_drop hx)
  have hN:=U0_ _ hbd
  have hl:(b.drop p.toNat).length=b.length - p.toNat:=List.length_drop
  by_cases he:e=0
  ·subst he
   have f0:∀ x,zv_ 0 x=x:=fun x=>if_pos rfl
   have hT:jB_ (mdN (b.drop p.toNat)) b p sh (mdE (b.drop p.toNat))=p+mdN (b.drop p.toNat)/\Z1_ (mdN (b.drop p.toNat)) b p sh (mdE (b.drop p.toNat))=mdE (b.drop p.toNat):=by
    have hE:Z1_ (mdN (b.drop p.toNat)) b p sh (mdE (b.drop p.toNat))=mdE (b.drop p.toNat):=by
     unfold Z1_;rw [if_neg (by omega),if_neg (by omega)]
    refine ⟨?_,hE⟩
    unfold jB_;rw [hE]
    by_cases h0:mdE (b.drop p.toNat)=0
    ·rw [if_pos h0]
    ·rw [if_neg h0,(jb_ rfl h0).2];omega
   repeat'(intro t ht;first|(cases t<;>first|(cases ht;done)|(try simp only[zg_]at ht;try(exfalso;first|contradiction|omega)))|((first|refine zb_ ht ?_|refine ht ?_ ?_|refine ht.1 ?_ ?_|refine ht ?_)<;>clear ht))
   all_goals (try simp only [if_true,f0,hT] at*)
   all_goals first
    | exact True.intro
    | exact ⟨h1,h2,by omega,h4⟩
    | exact ⟨h1,h2,by omega⟩
    | omega
    | (unfold mtL mtP mtE;exact ⟨rfl,by first | rfl | exact True.intro⟩)
    | (exfalso;simp_all;done)
  ·repeat'(intro t ht;first|(cases t<;>first|(cases ht;done)|(try simp only[zg_]at ht;try(exfalso;first|contradiction|omega)))|((first|refine zb_ ht ?_|refine ht ?_ ?_|refine ht.1 ?_ ?_|refine ht ?_)<;>clear ht))
   all_goals first
    | exact True.intro
    | (unfold mtL mtP mtE;rw [if_neg he,if_neg he,if_neg he];exact ⟨rfl,by first | rfl | exact True.intro⟩)
    | (exfalso;simp_all;done)
 ·cases e
theorem zmp_ {y:List Int} (h:rE y=0):((rI y (zu_ y),rI y (zz_ y),(if rE y=0 then z5_ y else false),rI y (qf_ y),rR y (Zp_ y),rR y (Zq_ y),()):OV)=vO y:=by
 unfold rI rR vO;simp only [if_pos h]
theorem zjo_ {b:List Int} {i m:Nat} (h:i < b.length) (hm:0 < m):zT_ ((b.drop i).take m)=(decide (b.getD i 0=0) && zT_ ((b.drop (i+1)).take (m - 1))):=by
 obtain ⟨k,rfl⟩:∃ k,m=k+1:=⟨m - 1,by omega⟩
 rw [zw_ h 0,List.take_succ_cons];rfl
theorem zia_ {b:List Int} (h4:¬ b.length < 4) (ht:tT b=1) (hr:¬ (tN b < 4\/65528 < tN b\/b.length < tN b+pz (tN b))):mdE b=if ¬ (mlG [] (bd b)).2=0 then (mlG [] (bd b)).2 else if mdZ b=true then 0 else 1026:=by
 unfold mdE;rw [if_neg h4,if_neg (not_not_intro ht),if_neg hr]
theorem zfH_ {b:List Int} {e:Int} (h4:¬ b.length < 4) (ht:tT b=1) (hr:¬ (tN b < 4\/65528 < tN b\/b.length < tN b+pz (tN b))) (he:(mlG [] (bd b)).2=e) (h0:¬ e=0):mdE b=e/\mdL b=[]/\mdN b=0:=by
 have h:=zia_ h4 ht hr
 rw [he,if_pos h0] at h
 exact ⟨h,jb_ h h0⟩
def hw_:IR:=
(sq (kr [0] [oD 2 (.nilrow Y1),
oD 3 (.mov (cI 0)),
oD 4 (.mov (cI 0))])
(sq (sq (.reg [oM 14 0,
oE 15 14,
oB 16 .lss 15 (cI 4)])
(.cond 16
(sq (kr [] [oD 2 (.nilrow Y1),
oD 3 (.mov (cI 0)),
oD 4 (.mov (cI 1026))])
.ret)
.skip))
(sq (sq (kr [0] [oM 17 0,
oD 18 (.slice 1 17 none (some (cI 2)) none),
oC 19 101 [18],
oB 20 .neq 19 (.c (.int .u64 1))])
(.cond 20
(sq (.reg [oD 2 (.nilrow Y1),
oD 3 (.mov (cI 0)),
oD 4 (.mov (cI 1025))])
.ret)
.skip))
(sq (kr [0] [oM 21 0,
oD 22 (.slice 1 21 (some (cI 2)) (some (cI 4)) none),
oC 23 101 [22],
oD 24 (.conv .i64 23),
oM 5 24])
(sq (sq (kr [0,5] [oM 25 5,
oB 26 .lss 25 (cI 4),
oM 27 26,
oF 27 28 (.mov 5),
oF 27 29 (.bin .gtr 28 (cI 65528)),
oP 30 27 cT 29,
oM 31 30,
oF 31 32 (.mov 5),
oF 31 33 (.mov 5),
oF 31 34 (.call false (.f 102) [33]),
oF 31 35 (.bin .add 32 34),
oF 31 36 (.mov 0),
oF 31 37 (.len 36),
oF 31 38 (.bin .gtr 35 37),
oP 39 31 cT 38])
(.cond 39
(sq (kr [] [oD 2 (.nilrow Y1),
oD 3 (.mov (cI 0)),
oD 4 (.mov (cI 1026))])
.ret)
.skip))
(sq (kr [0,5] [oD 6 (.nilrow Y1)])
(sq (sq (.reg [oD 7 (.mov (cI 4))])
(.block 0
(.loop
(sq (sq (kr [0,5,6,7] [oM 40 7,
oM 41 5,
oB 42 .lss 40 41])
(.cond 42
.skip
(.exit 0)))
(.block 1
(sq (kr [0,5,6,7] [oM 44 0,
oM 45 7,
oM 46 5,
oD 47 (.slice 1 44 (some 45) (some 46) none),
oC 48 103 [47],
oM 43 48,
oX 49 43 0,
oX 50 43 1,
oX 51 43 2,
oD 8 (.box [.int .i64 0,.int .i64 0,.kb false,.int .u64 0,.imm (.int .u8) [],.imm (.int .u8) []]),
oS 6 8 49,
oM 9 50,
oM 10 51])
(sq (sq (kr [0,5,6,7,8,9,10] [oM 52 10,
oB 53 .neq 52 (cI 0)])
(.cond 53
(sq (.reg [oM 54 10,
oD 2 (.nilrow Y1),
oD 3 (.mov (cI 0)),
oM 4 54])
.ret)
.skip))
(sq (kr [0,5,6,7,8,9] [oM 55 6,
oK 56 6 8,
oD 57 (.sliceAll Y1 1 [(0,6,56)]),
oD 58 (.append Y1 80 55 57),
oM 6 58])
(sq (sq (kr [0,5,6,7,9] [oM 60 6,
oC 61 104 [60],
oM 59 61,
oX 62 59 0,
oX 63 59 1,
oM 11 62,
oM 12 63])
(sq (kr [0,5,6,7,9,12] [oM 64 12,
oB 65 .neq 64 (cI 0)])
(.cond 65
(sq (.reg [oM 66 12,
oD 2 (.nilrow Y1),
oD 3 (.mov (cI 0)),
oM 4 66])
.ret)
.skip)))
(kr [0,5,6,7,9] [oM 67 7,
oM 68 9,
oB 69 .add 67 68,
oM 7 69]))))))))))
(sq (sq (kr [0,5,6] [oM 70 5,
oM 13 70])
(.block 2
(.loop
(sq (sq (kr [0,5,6,13] [oM 71 13,
oM 72 5,
oM 73 5,
oC 74 102 [73],
oB 75 .add 72 74,
oB 76 .lss 71 75])
(.cond 76
.skip
(.exit 2)))
(sq (.block 3
(sq (kr [0,5,6,13] [oM 79 0,
oM 80 13,
oI 81 1 79 80,
oL 82 81,
oB 83 .neq 82 (.c (.int .u8 0))])
(.cond 83
(sq (.reg [oD 2 (.nilrow Y1),
oD 3 (.mov (cI 0)),
oD 4 (.mov (cI 1026))])
.ret)
.skip)))
(kr [0,5,6,13] [oM 77 13,
oB 78 .add 77 (cI 1),
oM 13 78]))))))
(sq (kr [5,6] [oM 84 6,
oM 85 5,
oM 86 5,
oC 87 102 [86],
oB 88 .add 85 87,
oM 2 84,
oM 3 88,
oD 4 (.mov (cI 0))])
.ret)))))))))
def Gr_:List RD:=[.tmp 2 true (some Y1),.tmp 3 true none,.tmp 4 true none]
theorem GX_:zm_ Tryz.prog Tryz.f50 hw_ Gr_=true:=by kernel_rfl
def wW_:List AV->List Obj->Option (Prop × AV)
 | [.imm (.int .u8) b],[]=>some ((b.length<=1000000,.tup [.imm Y1 (mdL b),.int .i64 (mdN b),.int .i64 (mdE b)]))
 | _,_=>none
theorem uV_:zd_ Tryz.prog 50 (RoF wW_).sum:=by
 refine zi_ Tryz.func50 GX_ (za_ (s:=RoF QJ_) kQ_ (za_ (s:=RoF Xf_) Ga_ (za_ (s:=RoF KK_) W7_ (za_ (s:=RoF Xg_) Gb_ (zc_ _))))) fun args objs p v e=>?_
 unfold wW_ at e
 split at e
 ·rename_i b
  cases e
  refine ⟨rfl,fun hw ho hp=>?_⟩
  change List Int at b
  have hb:∀ x ∈ (b:List Int),(0:Int)<=x/\x<=255:=fun x hx=>(hw (.imm (.int .u8) b) (by simp)).1 x hx
  clear hw ho
  have hn2:0<=tN b/\tN b<=65535:=jI_ (a:=2) hb
  have hz:=Ve_ hn2.1
  have v1:Zd_ (b.take (2:Int).toNat)=tT b:=rfl
  have v2:Zd_ ((b.take (4:Int).toNat).drop (2:Int).toNat)=tN b:=by unfold tN;rw [List.drop_take];rfl
  have q2:(b.take 2).length<=8:=by rw [List.length_take];omega
  have q4:((b.take 4).drop 2).length<=8:=by rw [List.length_drop,List.length_take];omega
  by_cases h4:b.length < 4
  ·have hE:mdE b=1026:=if_pos h4
   obtain ⟨m1,m2⟩:=jb_ hE (by decide)
   rw [m1,m2,hE]
   repeat'(intro t ht;first|(cases t<;>first|(cases ht;done)|(try simp only[zg_]at ht;try(exfalso;first|contradiction|omega)))|((first|refine zb_ ht ?_|refine ht ?_ ?_|refine ht.1 ?_ ?_|refine ht ?_)<;>clear ht))
   all_goals first
    | exact True.intro
    | exact ⟨rfl,by first | rfl | exact True.intro⟩
  ·by_cases ht1:tT b=1
   ·by_cases hr:tN b < 4\/65528 < tN b\/b.length < tN b+pz (tN b)
    ·have hE:mdE b=1026:=by unfold mdE;rw [if_neg h4,if_neg (not_not_intro ht1),if_pos hr]
     obtain ⟨m1,m2⟩:=jb_ hE (by decide)
     rw [m1,m2,hE]
     repeat'(intro t ht;first|(cases t<;>first|(cases ht;done)|(try simp only[zg_]at ht))|((first|refine zb_ ht ?_|refine ht ?_ ?_|refine ht.1 ?_ ?_|refine ht ?_)<;>clear ht))
     all_goals (try simp only [v1,v2] at*)
     all_goals first
      | exact True.intro
      | contradiction
      | exact q2
      | exact q4
      | omega
      | ((try simp only [zk_,zl_,zj_] at*);omega)
      | exact ⟨rfl,by first | rfl | exact True.intro⟩
      | exact ⟨True.intro,True.intro⟩
      | (exfalso;omega)
    ·have hN:(b.take (tN b).toNat).length=(tN b).toNat:=by rw [List.length_take];omega
     repeat'(intro t ht;first|(cases t<;>first|(cases ht;done)|(try simp only[zg_]at ht))|((first|refine zb_ ht ?_|refine ht ?_ ?_|refine ht.1 ?_ ?_|refine ht ?_)<;>clear ht))
     all_goals first
      | exact True.intro
      | contradiction
      | exact q2
      | exact q4
      | omega
      | (rw [v2];(try simp only [zk_,zl_,zj_] at*);omega)
      | (exfalso;rw [v2] at*;omega)
      | (exfalso;rw [v1] at*;contradiction)
      | (intro r h1 h2;clear h1;refine h2 ⟨[0,5,6,7],Nat × List OV,(fun a=>4<=a.1/\a.1<=tN b/\a.2.length<=a.1/\mlG [] (bd b)=mlG a.2 ((b.take (tN b).toNat).drop a.1)),(fun a=>[.imm (.int .u8) b,.int .i64 (tN b),.own 0,.int .i64 a.1]),(fun a=>[.row false Y1 a.2]),(fun a=>b.length - a.1),⟨(4,[]),⟨Nat.le_refl _,by dsimp only;omega,Nat.zero_le _,rfl⟩,(by rw [<- v2];rfl),rfl⟩,?_⟩;clear h2)
     rintro ⟨k,acc⟩ ⟨k1,k2,k3,k4⟩
     dsimp only at k1 k2 k3 k4
     have hyb:∀ x ∈ (b.take (tN b).toNat).drop k,(0:Int)<=x/\x<=255:=fun x hx=>hb x (List.mem_of_mem_take (List.mem_of_mem_drop hx))
     have hdl:=zad_ hyb
     have hyl:((b.take (tN b).toNat).drop k).length=(tN b).toNat - k:=by rw [List.length_drop,hN]
     by_cases hkn:(k:Int) < tN b
     ·repeat'(intro t ht;first|(cases t<;>first|(cases ht;done)|(try simp only[zg_]at ht;try(exfalso;first|contradiction|omega)))|((first|refine zb_ ht ?_|refine ht ?_ ?_|refine ht.1 ?_ ?_|refine ht ?_)<;>clear ht))
      all_goals (try simp only [zX_,Int.toNat_natCast])
      all_goals generalize hy:(b.take (tN b).toNat).drop k=y at*
      all_goals have hyn:¬ y.length=0:=by omega
      all_goals first
       | exact True.intro
       | ((try simp only [zk_,zl_,zj_] at*);omega)
       | (have h0:¬ rE y=0:=by assumption
          have hg:=Br_ (acc:=acc) hyn (show ¬ zK_ y=0 by rw [hdl];exact h0)
          rw [hg,hdl] at k4
          obtain ⟨m0,m1,m2⟩:=zfH_ (e:=rE y) h4 ht1 hr (by rw [k4]) h0
          rw [m0,m1,m2];exact ⟨rfl,by first | rfl | exact True.intro⟩)
       | (have h0:rE y=0:=by assumption
          have hd0:zK_ y=0:=hdl.trans h0
          have hv:=zmp_ h0
          have hg:=uD_ hyb hd0
          have e1:rI y (z9_ y)=z9_ y:=if_pos h0
          simp only [e1,hv] at*
          first
           | (simp only [List.length_cons,List.length_nil];constructor<;>omega)
           | ((try simp only [zk_,zl_,zj_] at*);omega)
           | (have hc:¬ (ckS [] (acc++[vO y])).2=0:=by assumption
              have hm:=zes_ (acc:=acc) hyn hd0 hc
              rw [hm] at k4
              obtain ⟨m0,m1,m2⟩:=zfH_ h4 ht1 hr (by rw [k4]) hc
              rw [m0,m1,m2];exact ⟨rfl,by first | rfl | exact True.intro⟩)
           | (have hc:(ckS [] (acc++[vO y])).2=0:=by assumption
              have hm:=zer_ (acc:=acc) hyb hyn hd0 hc
              refine ⟨(k+(z9_ y).toNat,acc++[vO y]),⟨?_,?_,?_,?_⟩,?_,?_,rfl⟩
              ·dsimp only;omega
              ·dsimp only;omega
              ·simp only [List.length_append,List.length_cons,List.length_nil];omega
              ·dsimp only;rw [k4,hm,<- hy,List.drop_drop]
              ·dsimp only;omega
              ·dsimp only;rw [Int.natCast_add,Int.toNat_of_nonneg (by omega)];rfl))
     ·have hnil:=uu_ (acc:=acc) (y:=(b.take (tN b).toNat).drop k) (by omega)
      have hmi:=zia_ h4 ht1 hr
      rw [k4,hnil,if_neg (not_not_intro rfl)] at hmi
      repeat'(intro t ht;first|(cases t<;>first|(cases ht;done)|(try simp only[zg_]at ht;try(exfalso;first|contradiction|omega)))|((first|refine zb_ ht ?_|refine ht ?_ ?_|refine ht.1 ?_ ?_|refine ht ?_)<;>clear ht))
      all_goals first
       | exact True.intro
       | ((try simp only [zk_,zl_,zj_] at*);omega)
       | (intro r h1 h2;clear h1;refine h2 ⟨[0,5,6,13],Nat,(fun i=>tN b<=i/\i<=tN b+pz (tN b)/\mdZ b=zT_ ((b.drop i).take (tN b+pz (tN b) - i).toNat)),(fun i=>[.imm (.int .u8) b,.int .i64 (tN b),.own 0,.int .i64 i]),(fun i=>[.row false Y1 acc]),(fun i=>b.length - i),⟨(tN b).toNat,⟨by omega,by omega,by unfold mdZ;rw [show (tN b+pz (tN b) - ((tN b).toNat:Nat)).toNat=(pz (tN b)).toNat by omega]⟩,(by dsimp only;rw [Int.toNat_of_nonneg hn2.1];try rfl),rfl⟩,?_⟩;clear h2)
      rintro i ⟨i1,i2,i3⟩
      repeat'(intro t ht;first|(cases t<;>first|(cases ht;done)|(try simp only[zg_]at ht;try(exfalso;first|contradiction|omega)))|((first|refine zb_ ht ?_|refine ht ?_ ?_|refine ht.1 ?_ ?_|refine ht ?_)<;>clear ht))
      all_goals first
       | exact True.intro
       | ((try simp only [zk_,zl_,zj_] at*);omega)
       | (simp only [Int.toNat_natCast];omega)
       | (have hge:¬ (i:Int) < tN b+pz (tN b):=by assumption
          have hz0:mdZ b=true:=by rw [i3,show (tN b+pz (tN b) - (i:Int)).toNat=0 by omega];rfl
          rw [if_pos hz0] at hmi
          have m1:mdL b=acc:=by unfold mdL;rw [if_pos hmi,k4,hnil]
          have m2:mdN b=tN b+pz (tN b):=if_pos hmi
          rw [m1,m2,hmi];exact ⟨rfl,by first | rfl | exact True.intro⟩)
       | (have hlt:i < b.length:=by omega
          have hs:=zjo_ (b:=b) (i:=i) (m:=(tN b+pz (tN b) - (i:Int)).toNat) hlt (by omega)
          rw [hs] at i3
          first
           | (have hq:b.getD i 0=0:=by assumption
              rw [hq] at i3
              refine ⟨i+1,⟨by omega,by omega,?_⟩,by dsimp only;omega,rfl,rfl⟩
              rw [i3,show (tN b+pz (tN b) - ((i+1:Nat):Int)).toNat=(tN b+pz (tN b) - (i:Int)).toNat - 1 by omega];rfl)
           | (have hq:¬ b.getD i 0=0:=by assumption
              have hz0:mdZ b=false:=by rw [i3,decide_eq_false hq];rfl
              rw [hz0] at hmi
              have hE:mdE b=1026:=hmi
              obtain ⟨m1,m2⟩:=jb_ hE (by decide)
              rw [m1,m2,hE];exact ⟨rfl,by first | rfl | exact True.intro⟩))
   ·have hE:mdE b=1025:=by unfold mdE;rw [if_neg h4,if_pos ht1]
    obtain ⟨m1,m2⟩:=jb_ hE (by decide)
    rw [m1,m2,hE]
    repeat'(intro t ht;first|(cases t<;>first|(cases ht;done)|(try simp only[zg_]at ht))|((first|refine zb_ ht ?_|refine ht ?_ ?_|refine ht.1 ?_ ?_|refine ht ?_)<;>clear ht))
    all_goals (try simp only [v1,v2] at*)
    all_goals first
     | exact True.intro
     | contradiction
     | exact q2
     | exact q4
     | omega
     | ((try simp only [zk_,zl_,zj_] at*);omega)
     | exact ⟨rfl,by first | rfl | exact True.intro⟩
     | exact ⟨True.intro,True.intro⟩
     | (exfalso;omega)
 ·cases e
structure WrOk (room:Int) (f:List Int->Int->List Int × Int) (v:Option (List Int)):Prop where
 ok:∀ y,v=some y->∀ l:List Int,(l.length:Int)+y.length<=room->f l 0=(l++y,0)
 full:∀ y,v=some y->∀ l:List Int,(l.length:Int)<=room->¬ (l.length:Int)+y.length<=room->(f l 0).2 ≠ 0
 bad:v=none->∀ l:List Int,(f l 0).2 ≠ 0
 ne:∀ (l:List Int) (e:Int),e ≠ 0->(f l e).2 ≠ 0
def wcat (a b:Option (List Int)):Option (List Int):=match a,b with | some x,some y=>some (x++y) | _,_=>none
theorem WrOk.seq {room:Int} {f g:List Int->Int->List Int × Int} {v w:Option (List Int)} (hf:WrOk room f v) (hg:WrOk room g w):WrOk room (fun l e=>g (f l e).1 (f l e).2) (wcat v w):=by
 cases v with
 | none=>exact ⟨fun y h=>(by cases h),fun y h=>(by cases h),fun _ l=>hg.ne _ _ (hf.bad rfl l),fun l e h=>hg.ne _ _ (hf.ne l e h)⟩
 | some x=>
   cases w with
   | none=>
     refine ⟨fun y h=>(by cases h),fun y h=>(by cases h),fun _ l=>?_,fun l e h=>hg.ne _ _ (hf.ne l e h)⟩
     show (g (f l 0).1 (f l 0).2).2 ≠ 0
     by_cases h0:(f l 0).2=0
     ·rw [h0];exact hg.bad rfl _
     ·exact hg.ne _ _ h0
   | some z=>
     refine ⟨fun y h l hl=>?_,fun y h l h0 hl=>?_,fun h=>(by cases h),fun l e h=>hg.ne _ _ (hf.ne l e h)⟩
     ·cases h
      rw [List.length_append] at hl
      show g (f l 0).1 (f l 0).2=_
      rw [hf.ok x rfl l (by omega)]
      show g (l++x) 0=_
      rw [hg.ok z rfl _ (by rw [List.length_append];omega),List.append_assoc]
     ·cases h
      rw [List.length_append] at hl
      show (g (f l 0).1 (f l 0).2).2 ≠ 0
      by_cases c:(l.length:Int)+x.length<=room
      ·rw [hf.ok x rfl l c]
       exact hg.full z rfl _ (by rw [List.length_append];omega) (by rw [List.length_append];omega)
      ·exact hg.ne _ _ (hf.full x rfl l h0 c)
theorem WrOk.fin {room:Int} {f:List Int->Int->List Int × Int} {v:Option (List Int)} (h:WrOk room f v) (h0:0<=room):(∀ y,v=some y->(y.length:Int)<=room->f [] 0=(y,0))/\((∀ y,v=some y->room < (y.length:Int))->(f [] 0).2 ≠ 0):=by
 refine ⟨fun y e hl=>h.ok y e [] (by simpa using hl),fun hy=>?_⟩
 cases v with
 | none=>exact h.bad rfl []
 | some y=>have:=hy y rfl;exact h.full y rfl [] (by simpa using h0) (by simp;omega)
theorem uK_ (room:Int) (x:List Int):WrOk room (fun l e=>(kH_ x l room e,QS_ x l room e)) (some x):=
 ⟨fun y h l hl=>by cases h;obtain ⟨a,b⟩:=q8_ (x:=x) (l:=l) (room:=room) (by omega);rw [a,b],fun y h l _ hl=>by cases h;exact x2_ (by omega),fun h=>(by cases h),fun l e h=>KH_ h⟩
def rowO (w xs:List Int):Option (List Int):=if qq_ w xs=true then some (ZR_ w xs) else none
theorem zdy_ (room:Int) (w xs:List Int):WrOk room (fun l e=>(qK_ w xs l room e,qJ_ w xs l room e)) (rowO w xs):=by
 unfold rowO
 by_cases hk:qq_ w xs=true
 ·have h:=uK_ room (ZR_ w xs)
  rw [if_pos hk]
  unfold qK_ qJ_
  simp only [if_pos hk]
  exact h
 ·rw [if_neg hk]
  unfold qK_ qJ_
  simp only [if_neg hk]
  exact ⟨fun y h=>(by cases h),fun y h=>(by cases h),fun _ l=>by show (10001:Int) ≠ 0;decide,fun l e h=>QF_ h⟩
theorem bM_ {room:Int}:∀ (r:List OV) (l:List Int) (e:Int),e ≠ 0->(puS room r l e).2 ≠ 0
 | [],l,e,h=>h
 | o :: r,l,e,h=>by unfold puS;exact bM_ r _ _ (KH_ (QF_ h))
theorem zbu_ {room:Int}:∀ (r:List OV) (l:List Int),r.all rgO=true->(l.length:Int)<=room->¬ ((l.length:Int)+(boO r).length<=room)->(puS room r l 0).2 ≠ 0
 | [],l,_,h0,h1=>by exfalso;apply h1;show (l.length:Int)+0<=room;omega
 | o :: r,l,h,h0,h1=>by
   rw [List.all_cons,Bool.and_eq_true] at h
   obtain ⟨_,h2,h3,_⟩:=be_ h.1
   rw [show boO (o :: r)=ecO o++boO r from List.flatMap_cons,List.length_append] at h1
   have f0:zv_ 0 0=0:=rfl
   unfold puS
   rw [h2,h3,f0]
   by_cases hf:((ecO o).length:Int)<=room - l.length
   ·obtain ⟨b1,b2⟩:=q8_ hf
    rw [b1,b2]
    exact zbu_ r _ h.2 (by rw [List.length_append];omega) (by rw [List.length_append];omega)
   ·exact bM_ _ _ _ (x2_ hf)
def matO (x:List OV):Option (List Int):=if rgM x=true then some (meB x) else none
theorem yS_ (room:Int) (x:List OV):WrOk room (fun l e=>(mpB x l room e,mpE x l room e)) (matO x):=by
 unfold matO
 cases hr:rgM x with
 | false=>
   rw [if_neg (by decide)]
   refine ⟨fun y h=>(by cases h),fun y h=>(by cases h),fun _ l=>?_,fun l e h=>?_⟩
   ·show mpE x l room 0 ≠ 0;rw [(zh2_ hr).2];decide
   ·show mpE x l room e ≠ 0;rw [(zh2_ hr).2];exact QF_ h
 | true=>
   rw [if_pos rfl]
   obtain ⟨p1,_,_,p4,p5⟩:=Js_ hr
   have hlen:=zfG_ x (by omega)
   refine ⟨fun y h l hl=>?_,fun y h l h0 hl=>?_,fun h=>(by cases h),fun l e h=>?_⟩
   ·cases h
    obtain ⟨a,b⟩:=zmN_ (l:=l) (room:=room) hr (by omega)
    show (mpB x l room 0,mpE x l room 0)=_;rw [a,b]
   ·cases h
    show mpE x l room 0 ≠ 0
    have hN:meN x=4+((boO x).length:Int):=rfl
    have hL:qs_ x=meN x:=(Js_ hr).2.2.1
    unfold mpE mpS
    rw [if_pos hr]
    by_cases c1:(4:Int)<=room - l.length
    ·have hk:qq_ [2,2] [1,qs_ x]=true:=by
      rw [hL];exact (Hd_ (a:=1) (n:=meN x) (by omega) (by omega)).2
     have hs:=Jw_ hk
     rw [show zD_ [2,2]=4 by decide] at hs
     have r1:qK_ [2,2] [1,qs_ x] l room 0=l++ZR_ [2,2] [1,qs_ x]/\qJ_ [2,2] [1,qs_ x] l room 0=0:=by
      unfold qK_ qJ_;rw [if_pos hk,if_pos hk];exact q8_ (by omega)
     rw [r1.1,r1.2]
     by_cases c2:((l++ZR_ [2,2] [1,qs_ x]).length:Int)+(boO x).length<=room
     ·rw [zd4_ x _ p1 c2]
      refine x2_ ?_
      unfold mpZ
      rw [List.length_replicate,hL,List.length_append,List.length_append]
      rw [List.length_append] at c2
      rw [hL] at hs
      have:=Ve_ (n:=meN x) (by omega)
      omega
     ·exact KH_ (zbu_ x _ p1 (by rw [List.length_append];omega) c2)
    ·have hk:qq_ [2,2] [1,qs_ x]=true:=by
      rw [hL];exact (Hd_ (a:=1) (n:=meN x) (by omega) (by omega)).2
     have hs:=Jw_ hk
     rw [show zD_ [2,2]=4 by decide] at hs
     refine KH_ (bM_ _ _ _ ?_)
     unfold qJ_;rw [if_pos hk];exact x2_ (by omega)
   ·show mpE x l room e ≠ 0
    unfold mpE mpS;rw [if_pos hr]
    exact KH_ (bM_ _ _ _ (zjH_ h))
def actO (x:List AC):Option (List Int):=if rgL x=true then some (boA x) else none
theorem zjq_ (room:Int) (x:List AC):WrOk room (fun l e=>(apB x l room e,apE x l room e)) (actO x):=by
 unfold actO
 cases hr:rgL x with
 | false=>
   rw [if_neg (by decide)]
   refine ⟨fun y h=>(by cases h),fun y h=>(by cases h),fun _ l=>?_,fun l e h=>?_⟩
   ·show apE x l room 0 ≠ 0;rw [(zi4_ hr).2];decide
   ·show apE x l room e ≠ 0;rw [(zi4_ hr).2];exact QF_ h
 | true=>
   rw [if_pos rfl]
   refine ⟨fun y h l hl=>?_,fun y h l h0 hl=>?_,fun h=>(by cases h),fun l e h=>zmi_ h⟩
   ·cases h
    obtain ⟨a,b⟩:=zm9_ (l:=l) hr hl
    show (apB x l room 0,apE x l room 0)=_;rw [a,b]
   ·cases h
    show apE x l room 0 ≠ 0
    unfold apE;rw [if_pos hr]
    exact zav_ _ _ (Jt_ hr).1 h0 hl
theorem Y4_ {w n y:List Int} (h:rowO w n=some y):qq_ w n=true/\ZR_ w n=y:=by
 unfold rowO at h;split at h
 ·cases h;exact ⟨by assumption,rfl⟩
 ·cases h
theorem Jh_ {a b:Option (List Int)} {y:List Int} (h:wcat a b=some y):∃ p q,a=some p/\b=some q/\y=p++q:=by
 cases a with
 | none=>cases h
 | some p=>cases b with
   | none=>cases h
   | some q=>cases h;exact ⟨p,q,rfl,rfl,rfl⟩
theorem zff_ {a b:List Int}:wcat (some a) (some b)=some (a++b):=rfl
theorem zg8_ {a:List AC} {y:List Int} (h:actO a=some y):rgL a=true/\boA a=y:=by
 unfold actO at h;split at h
 ·cases h;exact ⟨by assumption,rfl⟩
 ·cases h
theorem zkw_ {x:List AC} {l:List Int} {room e:Int} (h:l.length<=1000000) (hr:room<=1000000):(apB x l room e).length<=1000000:=by
 unfold apB;split
 ·exact zfe_ hr _ _ _ h
 ·exact h
def JM_ (m:VMs):Bool:=decide (m.2.2.1.length=0) && decide (m.2.2.2.1.length=0) && decide (m.2.2.2.2.1.length=0) && decide (m.2.2.2.2.2.1.length=0) && decide (m.2.2.2.2.2.2.1.length=0) && decide (m.2.2.2.2.2.2.2.1.length=0) && decide (m.2.2.2.2.2.2.2.2.1.length=0) && decide (m.2.2.2.2.2.2.2.2.2.1.length=0) && decide (m.2.2.2.2.2.2.2.2.2.2.1.length=0) && decide (m.2.2.2.2.2.2.2.2.2.2.2.1.length=0) && decide (m.2.2.2.2.2.2.2.2.2.2.2.2.1=0) && decide (m.2.2.2.2.2.2.2.2.2.2.2.2.2.1=0) && decide (m.2.2.2.2.2.2.2.2.2.2.2.2.2.2.1.length=0)
theorem zkt_ {m:VMs}:JM_ m=true ↔ m=(m.1,m.2.1,[],[],[],[],[],[],[],[],[],[],0,0,[],()):=by
 obtain ⟨a0,a1,a2,a3,a4,a5,a6,a7,a8,a9,a10,a11,a12,a13,a14,_⟩:=m
 unfold JM_
 simp only [Bool.and_eq_true,decide_eq_true_eq,List.length_eq_zero_iff,Prod.mk.injEq,true_and,and_true,and_assoc]
abbrev mT (m:VMs):=m.1
abbrev mN (m:VMs):=m.2.2.1
abbrev mX (m:VMs):=m.2.2.2.2.2.1
theorem zdd_ (pre:List OV) (o:OV) (r:List OV):ckS pre (o :: r)=if pre.any (fun x=>alO x o)=true then (((pre.length:Nat):Int),1035) else if wv_ pre o.1 o.2.1=true then ckS (pre++[o]) r else (((pre.length:Nat):Int),1034):=rfl
theorem zko_ (pre:List OV):ckS pre []=(0,0):=rfl
theorem zf0_:∀ (r pre s:List OV),ckS pre (r++s)=if (ckS pre r).2=0 then ckS (pre++r) s else ckS pre r
 | [],pre,s=>by
   rw [List.nil_append,List.append_nil,zko_,if_pos rfl]
 | o :: r,pre,s=>by
   rw [List.cons_append,zdd_,zdd_ pre o r]
   by_cases h1:pre.any (fun x=>alO x o)=true
   ·simp only [if_pos h1];rw [if_neg (by decide)]
   ·simp only [if_neg h1]
    by_cases h2:wv_ pre o.1 o.2.1=true
    ·simp only [if_pos h2]
     rw [zf0_ r (pre++[o]) s,List.append_assoc,List.singleton_append]
    ·simp only [if_neg h2];rw [if_neg (by decide)]
theorem zkn_ {r s:List OV} (h:(ckS [] (r++s)).2=0):(ckS [] r).2=0:=by
 rw [zf0_] at h
 by_cases h1:(ckS [] r).2=0
 ·exact h1
 ·rw [if_neg h1] at h;exact h
theorem zj1_ {acc:List OV} {y:List Int} (h:¬ y.length=0) (h1:zK_ y=0) (h2:(ckS [] (acc++[vO y])).2=0) (hn:1<=z9_ y):mlG acc y=mlG (acc++[vO y]) (y.drop (z9_ y).toNat):=by
 rw [mlG,if_neg h,if_neg (not_not_intro h1),if_neg (not_not_intro h2),show max 1 (z9_ y).toNat=(z9_ y).toNat by omega]
theorem ziF_ (o:OV):4<=(ecO o).length:=by
 have:=zn_ (n:=o.1) (w:=2) (by decide)
 unfold ecO Qg_;simp only [List.length_append,List.length_cons];omega
theorem zdm_ (o:OV) (r:List OV):boO (o :: r)=ecO o++boO r:=List.flatMap_cons
theorem zfE_:∀ (r acc:List OV),r.all rgO=true->(∀ o ∈ r,0<=o.2.2.2.1)->(ckS [] (acc++r)).2=0->mlG acc (boO r)=(acc++r,0)
 | [],acc,_,_,_=>by rw [uu_ (by rfl),List.append_nil]
 | o :: r,acc,h,hx,hc=>by
   rw [List.all_cons,Bool.and_eq_true] at h
   have hr:zS_ o.1 o.2.1 o.2.2.1 o.2.2.2.1 o.2.2.2.2.1 o.2.2.2.2.2.1=true:=h.1
   obtain ⟨D1,D2,D3,D4,D5,D6,D7,D8⟩:=zfU_ (b:=boO r) hr (hx o (List.mem_cons_self ..))
   have hge:=ziF_ o
   have hv:vO (ecO o++boO r)=o:=by
    unfold vO ecO;rw [D2,D3,D4,D5,D6,D7]
   have hE:zK_ (ecO o++boO r)=0:=D1
   have hN:z9_ (ecO o++boO r)=(ecO o).length:=D8
   have ha:acc++o :: r=(acc++[o])++r:=by rw [List.append_assoc];rfl
   have hc1:(ckS [] (acc++[o])).2=0:=by rw [ha] at hc;exact zkn_ hc
   rw [zdm_,zj1_ (by rw [List.length_append];omega) hE (by rw [hv];exact hc1) (by rw [hN];omega),hv,hN,Int.toNat_natCast,List.drop_left]
   rw [zfE_ r (acc++[o]) h.2 (fun o ho=>hx o (List.mem_cons_of_mem _ ho)) (by rw [<- ha];exact hc),<- ha]
theorem ziV_:∀ (l:List OV),4*l.length<=(boO l).length
 | []=>Nat.zero_le _
 | o :: r=>by
   have:=ziV_ r
   have:=ziF_ o
   rw [zdm_,List.length_append,List.length_cons];omega
theorem zmx_ {l:List OV} (h:rgM l=true):okM l:=by
 obtain ⟨h1,h2,h3,h4,h5⟩:=Js_ h
 refine ⟨⟨fun o ho=>?_⟩,?_⟩
 ·have:=zhC_ (List.all_eq_true.1 h1 o ho)
  exact ⟨by omega,by omega⟩
 ·have:=ziV_ l
  have:meN l=4+(boO l).length:=rfl
  omega
theorem zj3_ {N:Int} {body rest:List Int} (hN:N=4+body.length) (hN2:N<=65535):
 tT (ze_ 1 2++ze_ N 2++body++rest)=1/\tN (ze_ 1 2++ze_ N 2++body++rest)=N/\bd (ze_ 1 2++ze_ N 2++body++rest)=body/\(ze_ 1 2++ze_ N 2++body++rest).drop N.toNat=rest/\(ze_ 1 2++ze_ N 2++body++rest).length=4+body.length+rest.length:=by
 have l2:(ze_ 1 2).length=2:=by have:=zn_ (n:=1) (w:=2) (by decide);omega
 have l3:(ze_ N 2).length=2:=by have:=zn_ (n:=N) (w:=2) (by decide);omega
 have e1:tT (ze_ 1 2++ze_ N 2++body++rest)=1:=by
  unfold tT;rw [List.append_assoc,List.append_assoc,List.take_left' l2];exact num2 (by decide)
 have e2:tN (ze_ 1 2++ze_ N 2++body++rest)=N:=by
  unfold tN;rw [List.append_assoc,List.append_assoc,List.drop_left' l2,List.take_left' l3];exact num2 (by omega)
 have hl:(ze_ 1 2++ze_ N 2++body++rest).length=4+body.length+rest.length:=by simp only [List.length_append];omega
 refine ⟨e1,e2,?_,?_,hl⟩
 ·unfold bd
  rw [e2,List.take_left' (by simp only [List.length_append];omega)]
  exact List.drop_left' (by rw [List.length_append];omega)
 ·exact List.drop_left' (by simp only [List.length_append];omega)
theorem zlL_ {l:List OV} {b:List Int} (h:rgM l=true) (hx:∀ o ∈ l,0<=o.2.2.2.1):mdE (meB l++b)=0/\mdL (meB l++b)=l/\mdN (meB l++b)=(meB l).length:=by
 obtain ⟨h1,h2,h3,h4,h5⟩:=Js_ h
 have hz:=Ve_ (n:=meN l) (by omega)
 have hml:=zfG_ l (by omega)
 have e:meB l++b=ze_ 1 2++ze_ (meN l) 2++boO l++(List.replicate (pz (meN l)).toNat 0++b):=by unfold meB;simp only [List.append_assoc]
 obtain ⟨t1,t2,t3,t4,t5⟩:=zj3_ (N:=meN l) (body:=boO l) (rest:=List.replicate (pz (meN l)).toNat 0++b) rfl (by omega)
 rw [<- e] at t1 t2 t3 t4 t5
 have hN:meN l=4+(boO l).length:=rfl
 simp only [List.length_append,List.length_replicate] at t5
 have hm:=zfE_ l [] h1 hx h2
 rw [List.nil_append] at hm
 have hZ:mdZ (meB l++b)=true:=by
  unfold mdZ;rw [t2,t4,List.take_left' List.length_replicate];exact YT_ _
 have hE:mdE (meB l++b)=0:=by
  rw [zia_ (by rw [List.length_append];omega) t1 (by rw [t2,List.length_append];omega),t3,hm,hZ];rfl
 refine ⟨hE,?_,?_⟩
 ·unfold mdL;rw [if_pos hE,t3,hm]
 ·unfold mdN;rw [if_pos hE,t2];omega
def n8 (q:P8):List Int:=[q.1,q.2.1,q.2.2.1,q.2.2.2.1,q.2.2.2.2.1,q.2.2.2.2.2.1,q.2.2.2.2.2.2.1,q.2.2.2.2.2.2.2.1]
def BA_:IR:=
(sq (kr [0,1] [oD 4 (.nilrow (.int .u64)),
oD 5 (.mov (cI 0))])
(sq (sq (.reg [oM 10 0,
oC 11 113 [10],
oD 12 (.un .not 11)])
(.cond 12
(sq (.reg [oD 4 (.nilrow (.int .u64)),
oD 5 (.mov (cI 2))])
.ret)
.skip))
(sq (kr [0,1] [oD 6 (.nilrow (.int .u64))])
(sq (sq (.reg [oM 13 0,
oE 14 13,
oD 15 (.mov (cI 0))])
(.block 0
(.loop
(sq (kr [1,6,13,14,15] [oB 16 .lss 15 14])
(sq (.cond 16
.skip
(.exit 0))
(sq (.block 1
(sq (.reg [oI 17 1 13 15,
oL 18 17,
oM 8 18])
(sq (kr [1,6,8,13,14,15] [oM 19 8,
oM 20 8,
oD 21 (.un .neg 20),
oD 22 (.minmax true 19 21),
oM 9 22])
(sq (.block 2
(sq (kr [1,6,8,9,13,14,15] [oM 24 1,
oE 25 24,
oM 26 9,
oB 27 .lss 25 26,
oM 23 27])
(.cond 23
(sq (.reg [oD 4 (.nilrow (.int .u64)),
oD 5 (.mov (cI 1))])
.ret)
(sq (.reg [oM 29 8,
oB 30 .gtr 29 (cI 0),
oM 28 30])
(.cond 28
(kr [1,6,9,13,14,15] [oM 31 6,
oM 32 1,
oM 33 9,
oD 34 (.slice 1 32 none (some 33) none),
oC 35 129 [34],
oD 36 (.sliceAll (.int .u64) 1 [(0,1,35)]),
oD 37 (.append (.int .u64) 8 31 36),
oM 6 37])
(sq (kr [1,6,9,13,14,15] [oM 39 1,
oM 40 9,
oD 41 (.slice 1 39 none (some 40) none),
oC 42 130 [41],
oD 43 (.un .not 42),
oM 38 43])
(.cond 38
(sq (kr [] [oD 4 (.nilrow (.int .u64)),
oD 5 (.mov (cI 2))])
.ret)
.skip)))))))
(kr [1,6,9,13,14,15] [oM 44 1,
oM 45 9,
oD 46 (.slice 1 44 (some 45) none none),
oM 1 46])))))
(kr [1,6,13,14,15] [oB 47 .add 15 (cI 1),
oM 15 47])))))))
(sq (kr [6] [oM 48 6,
oM 4 48,
oD 5 (.mov (cI 0))])
.ret)))))
def bi_:List RD:=[.tmp 4 false none,.tmp 5 false none]
theorem bT_:zm_ Tryz.prog Tryz.f93 BA_ bi_=true:=by kernel_rfl
def x8_:List AV->List Obj->Option (Prop × AV × List Obj)
 | [.imm (.int .i64) w,.imm (.int .u8) b],[]=>some ((True,.tup [.own 0,.int .i64 (zQ_ w b)],[.row false (.int .u64) (zG_ w b)]))
 | _,_=>none
theorem g3_:zd_ Tryz.prog 93 (RwF x8_).sum:=by
 refine qa_ Tryz.func93 bT_ (za_ (s:=RoF qU_) Qo_ (za_ (s:=RoF KJ_) W6_ (za_ (s:=RoF wO_) yW_ (zc_ _)))) fun args objs p v o e=>?_
 unfold x8_ at e
 split at e
 ·rename_i w b
  cases e
  refine ⟨rfl,fun hw ho hp=>?_⟩
  change List Int at w
  change List Int at b
  have hb:b.length<=maxLen:=(hw (.imm (.int .u8) b) (by simp)).2
  unfold maxLen at hb
  repeat'(intro t ht;first|(cases t<;>first|(cases ht;done)|(try simp only[zg_]at ht))|((first|refine zb_ ht ?_|refine ht ?_ ?_|refine ht.1 ?_ ?_|refine ht ?_)<;>clear ht))
  all_goals first
   | exact True.intro
   | (intro r h1 h2;clear h1;refine h2 ⟨[1,6,13,14,15],Nat × List Int × List Int,(fun a=>a.1<=w.length/\a.2.1.length<=b.length/\a.2.2.length<=a.1/\ZE_ w b []=ZE_ (w.drop a.1) a.2.1 a.2.2),fun a=>[.imm (.int .u8) a.2.1,.own 0,.imm (.int .i64) w,.int .i64 w.length,.int .i64 a.1],fun a=>[.row false (.int .u64) a.2.2],fun a=>w.length - a.1,⟨(0,b,[]),⟨Nat.zero_le _,Nat.le_refl _,Nat.zero_le _,rfl⟩,rfl,rfl⟩,?_⟩;clear h2)
   | (have hr:Zb_ w=false:=by assumption
      have hf:Zy_ w b=([],2):=by unfold Zy_;rw [hr];rfl
      unfold zG_ zQ_;rw [hf];exact ⟨rfl,rfl⟩)
  rintro ⟨i,c,o⟩ ⟨hi,hc,ho,he⟩
  dsimp only at hi hc ho he
  have hr:Zb_ w=true:=by assumption
  have hl:=(Zj_.1 hr).1
  repeat'(intro t ht;first|(cases t<;>first|(cases ht;done)|(try simp only[zg_]at ht))|((first|refine zb_ ht ?_|refine ht ?_ ?_|refine ht.1 ?_ ?_|refine ht ?_)<;>clear ht))
  all_goals first
   | ((try simp only [zk_,zl_,zj_] at*);omega)
   | (have hge:w.length<=i:=by omega
      rw [List.drop_of_length_le hge] at he
      have hf:Zy_ w b=(o,0):=by unfold Zy_;rw [if_pos hr,he];rfl
      unfold zG_ zQ_;rw [hf];exact ⟨rfl,rfl⟩)
   | skip
  all_goals have hlt:i < w.length:=by omega
  all_goals have hkk:=(Zj_.1 hr).2 _ (zL_ (α:=Int) hlt 0)
  all_goals have ha:=KI_ (n:=w.getD i 0)
  all_goals have hA:(if 0 - w.getD i 0 > w.getD i 0 then 0 - w.getD i 0 else w.getD i 0)=zr_ (w.getD i 0):=rfl
  all_goals first
   | exact True.intro
   | ((try simp only [zk_,zl_,zj_] at*);omega)
   | (have h1:(c.length:Int) < zr_ (w.getD i 0):=by assumption
      have hf:Zy_ w b=([],1):=by unfold Zy_;rw [if_pos hr,he];exact yq_ hlt h1
      unfold zG_ zQ_;rw [hf];exact ⟨rfl,rfl⟩)
   | (have h1:¬ (c.length:Int) < zr_ (w.getD i 0):=by assumption
      first
       | (have h2:¬ 0 < w.getD i 0:=by assumption
          first
           | (have h3:zT_ (c.take (zr_ (w.getD i 0)).toNat)=true:=by assumption
              refine ⟨(i+1,c.drop (zr_ (w.getD i 0)).toNat,o),⟨hlt,?_,by dsimp only;omega,?_⟩,by dsimp only;omega,rfl,rfl⟩
              ·dsimp only;rw [List.length_drop];omega
              ·rw [he];exact vA_ hlt h1 h2 h3)
           | (have h3:zT_ (c.take (zr_ (w.getD i 0)).toNat)=false:=by assumption
              have hf:Zy_ w b=([],2):=by unfold Zy_;rw [if_pos hr,he];exact gu_ hlt h1 h2 h3
              unfold zG_ zQ_;rw [hf];exact ⟨rfl,rfl⟩))
       | (have h2:0 < w.getD i 0:=by assumption
          first
           | (show (c.take (zr_ (w.getD i 0)).toNat).length<=8;rw [List.length_take];omega)
           | (simp only [zX_,List.length_append,List.length_cons,List.length_nil];omega)
           | (refine ⟨(i+1,c.drop (zr_ (w.getD i 0)).toNat,o++[Zd_ (c.take (zr_ (w.getD i 0)).toNat)]),⟨hlt,?_,?_,?_⟩,by dsimp only;omega,rfl,rfl⟩
              ·dsimp only;rw [List.length_drop];omega
              ·simp only [List.length_append,List.length_cons,List.length_nil];omega
              ·rw [he];exact gv_ hlt h1 h2)))
 ·cases e
def wF_:IR:=
(sq (kr [0,1] [oD 4 (.nilrow (.int .u64))])
(sq (sq (.reg [oM 7 0,
oC 8 43 [7],
oB 9 .neq 8 (cI 0)])
(.cond 9
(sq (.reg [oD 4 (.nilrow (.int .u64))])
.ret)
.skip))
(sq (kd [0,1] [(oM 11 1,[]),
(oM 12 0,[0]),
(oD 13 (.nilck 12),[1]),
(oA 14 0 13,[2]),
(oL 15 14,[3]),
(oM 16 0,[0,0,0,0,0]),
(oD 17 (.nilck 16),[1,0,0,0,0]),
(oA 18 1 17,[2,0,0,0,0]),
(oL 19 18,[3,0,0,0,0]),
(oD 20 (.slice 1 15 (some 19) none none),[8]),
(oC 21 93 [11,20],[]),
(oM 10 21,[]),
(oX 22 10 0,[]),
(oX 23 10 1,[0]),
(oM 5 22,[0]),
(oM 6 23,[])])
(sq (sq (kr [0,1,5,6] [oM 24 6])
(.block 0
(sq (.reg [oB 35 .eql 24 (cI 1),
oM 34 35])
(.cond 34
(kr [0,5] [oM 36 0,
oM 37 0,
oD 38 (.nilck 37),
oA 39 2 38,
oL 40 39,
oC 41 44 [36,40]])
(sq (.reg [oB 43 .eql 24 (cI 2),
oM 42 43])
(.cond 42
(kr [0,5] [oM 44 0,
oM 45 0,
oD 46 (.nilck 45),
oA 47 3 46,
oL 48 47,
oC 49 44 [44,48]])
(kd [0,1,5] [(oM 25 0,[]),
(oD 26 (.nilck 25),[]),
(oA 27 1 26,[]),
(oL 28 27,[]),
(oM 29 1,[0,0,0,0]),
(oC 30 94 [29],[1,0,0,0]),
(oB 31 .add 28 30,[]),
(oD 32 (.nilck 25),[]),
(oA 33 1 32,[]),
(oS 1 33 31,[])])))))))
(sq (kr [5] [oM 50 5,
oM 4 50])
.ret)))))
def wh_:List RD:=[.tmp 4 false none]
theorem wq_:zm_ Tryz.prog Tryz.f42 wF_ wh_=true:=by kernel_rfl
def ZX_:List AV->List Obj->Option (Prop × AV × List Obj)
 | [.ptr 0 0,.imm (.int .i64) w],[.box [.imm (.int .u8) b,.int .i64 p,.int .i64 sh,.int .i64 od,.int .i64 e,.bool true]]=>some ((0<=p/\p<=b.length/\b.length<=140737488355328,.own 1,[.box [.imm (.int .u8) b,.int .i64 (kC_ w b p e),.int .i64 sh,.int .i64 od,.int .i64 (Kg_ w b p sh od e),.bool true],.row false (.int .u64) (QR_ w b p e)]))
 | _,_=>none
theorem QD_:zd_ Tryz.prog 42 (RwF ZX_).sum:=by
 refine qa_ Tryz.func42 wq_ (za_ (s:=RoF zp_) zq_ (za_ (s:=RwF x8_) g3_ (za_ (s:=RwF zs_) zt_ (za_ (s:=RoF QC_) QW_ (zc_ _))))) fun args objs p v o e=>?_
 unfold ZX_ at e
 split at e
 ·rename_i w b p sh od e
  cases e
  refine ⟨rfl,fun hw ho hp=>?_⟩
  change List Int at w
  change List Int at b
  have hz:=Jq_ w
  repeat'(intro t ht;first|(cases t<;>first|(cases ht;done)|(try simp only[zg_]at ht))|((first|refine zb_ ht ?_|refine ht ?_ ?_|refine ht.1 ?_ ?_|refine ht ?_)<;>clear ht))
  all_goals first
   | exact True.intro
   | ((try simp only [zk_,zl_,zj_] at*);omega)
   | (refine ⟨rfl,?_⟩;unfold QR_ kC_ Kg_;simp_all [zv_];done)
 ·cases e
theorem gs_:∀ (w b o:List Int),(ZE_ w b o).1.length<=o.length+w.length
 | [],b,o=>by simp [ZE_]
 | n :: r,b,o=>by
   simp only [ZE_]
   split
   ·simp
   ·split
    ·have ih:=gs_ r (b.drop (zr_ n).toNat) (o++[Zd_ (b.take (zr_ n).toNat)])
     simp only [List.length_append,List.length_cons,List.length_nil] at ih ⊢;omega
    ·split
     ·have ih:=gs_ r (b.drop (zr_ n).toNat) o
      simp only [List.length_cons];omega
     ·simp
theorem zkm_ (w b:List Int) (p e:Int):(QR_ w b p e).length<=w.length:=by
 unfold QR_ zG_ Zy_
 split
 ·split
  ·have:=gs_ w (b.drop p.toNat) [];simpa using this
  ·simp
 ·simp
theorem gw_:∀ (w b o:List Int),((ZE_ w b o).2=0\/(ZE_ w b o).2=1\/(ZE_ w b o).2=2)/\((ZE_ w b o).2=0->(w.map zr_).sum<=b.length)
 | [],b,o=>⟨.inl rfl,fun _=>by simp⟩
 | n :: r,b,o=>by
   have ha:=KI_ (n:=n)
   have hd:(b.drop (zr_ n).toNat).length=b.length - (zr_ n).toNat:=List.length_drop
   simp only [ZE_]
   rw [List.map_cons,List.sum_cons]
   split
   ·exact ⟨.inr (.inl rfl),fun h=>by cases h⟩
   ·split
    ·have ih:=gw_ r (b.drop (zr_ n).toNat) (o++[Zd_ (b.take (zr_ n).toNat)])
     exact ⟨ih.1,fun h=>by have:=ih.2 h;omega⟩
    ·split
     ·have ih:=gw_ r (b.drop (zr_ n).toNat) o
      exact ⟨ih.1,fun h=>by have:=ih.2 h;omega⟩
     ·exact ⟨.inr (.inr rfl),fun h=>by cases h⟩
theorem ziy_ (w b:List Int):(zQ_ w b=0\/zQ_ w b=1\/zQ_ w b=2)/\(zQ_ w b=0->zD_ w<=b.length):=by
 unfold zQ_ Zy_ zD_
 split
 ·exact gw_ w b []
 ·exact ⟨.inr (.inr rfl),fun h=>by cases h⟩
theorem zkl_ {w b:List Int} {p e:Int} (h0:0<=p) (h1:p<=b.length):0<=kC_ w b p e/\kC_ w b p e<=b.length:=by
 have hk:=ziy_ w (b.drop p.toNat)
 have hz:=Jq_ w
 have hd:(b.drop p.toNat).length=b.length - p.toNat:=List.length_drop
 unfold kC_
 by_cases he:e=0
 ·rw [if_pos he]
  by_cases h2:zQ_ w (b.drop p.toNat)=1
  ·rw [if_pos h2];exact ⟨h0,h1⟩
  ·rw [if_neg h2]
   by_cases h3:zQ_ w (b.drop p.toNat)=2
   ·rw [if_pos h3];exact ⟨h0,h1⟩
   ·rw [if_neg h3]
    have:=hk.2 (by omega)
    omega
 ·rw [if_neg he];exact ⟨h0,h1⟩
end Go.Eng
