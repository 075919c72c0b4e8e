/- Parts of the proof: M6, M7, M8, X1, X2, X3. No condition. -/
import Derived.Test.YtiejmanmofemeaaGreatDoorProg
import Derived.Test.YtiejmanmofemeaaGreatDoorWR10
import Derived.KernelRfl
import Derived.Test.YtiejmanmofemeaaGreatDoorWR20
import Derived.Test.YtiejmanmofemeaaGreatDoorWR17
import Derived.Test.YtiejmanmofemeaaGreatDoorWR14
import Derived.Test.YtiejmanmofemeaaGreatDoorWR19
namespace Go.Eng
open Go.Proofs
set_option linter.unusedVariables false
set_option linter.unusedSimpArgs false
set_option maxRecDepth 100000
set_option maxHeartbeats 1000000
def vO (y:List Int):OV:=(zq_ y,zv_ y,zY_ y,Z6_ y,Zj_ y,Zk_ y,())
def mlG (acc:List OV) (y:List Int):List OV × Int:=
 if y.length=0 then (acc,0) else if ¬ zH_ y=0 then ([],zH_ y) else if ¬ (ckS [] (acc++[vO y])).2=0 then ([],(ckS [] (acc++[vO y])).2) else mlG (acc++[vO y]) (y.drop (max 1 (z2_ y).toNat))
termination_by y.length
decreasing_by all_goals (rw [List.length_drop];omega)
theorem v9_ {acc:List OV} {y:List Int} (h:y.length=0):mlG acc y=(acc,0):=by rw [mlG,if_pos h]
theorem Hg_ {acc:List OV} {y:List Int} (h:¬ y.length=0) (h1:¬ zH_ y=0):mlG acc y=([],zH_ y):=by rw [mlG,if_neg h,if_pos h1]
theorem zbP_ {acc:List OV} {y:List Int} (h:¬ y.length=0) (h1:zH_ y=0) (h2:¬ (ckS [] (acc++[vO y])).2=0):mlG acc y=([],(ckS [] (acc++[vO y])).2):=by rw [mlG,if_neg h,if_neg (not_not_intro h1),if_pos h2]
theorem Ve_ {y:List Int} (hb:∀ x ∈ y,0<=x/\x<=255) (h:zH_ y=0):4<=z2_ y/\z2_ y<=y.length:=by
 obtain ⟨h1,h2,h3,h4⟩:=HT_ hb h
 have:=congrArg List.length h2
 rw [List.length_take] at this
 have hl:4<=(q3_ (zq_ y) (zv_ y) (zY_ y) (Z6_ y) (Zj_ y) (Zk_ y)).length:=by
  have:=zn_ (n:=zq_ y) (w:=2) (by decide)
  unfold q3_;simp only [List.length_append,List.length_cons];omega
 omega
theorem zbO_ {acc:List OV} {y:List Int} (hb:∀ x ∈ y,0<=x/\x<=255) (h:¬ y.length=0) (h1:zH_ y=0) (h2:(ckS [] (acc++[vO y])).2=0):mlG acc y=mlG (acc++[vO y]) (y.drop (z2_ y).toNat):=by
 have hn:=Ve_ hb h1
 rw [mlG,if_neg h,if_neg (not_not_intro h1),if_neg (not_not_intro h2),show max 1 (z2_ y).toNat=(z2_ y).toNat by omega]
theorem zhE_ {y:List Int} (h:zH_ y=0):((Zv_ y (zq_ y),Zv_ y (zv_ y),(if zH_ y=0 then zY_ y else false),Zv_ y (Z6_ y),Z0_ y (Zj_ y),Z0_ y (Zk_ y),()):OV)=vO y:=by
 unfold Zv_ Z0_ vO;simp only [if_pos h]
def gM_:IR:=
(sq (kr [0] [oD 1 (.boxv 0),
oD 2 (.mov (.c (.undef)))])
(sq (.reg [oD 3 (.mkfn 232 [] [1]),
oM 2 3])
.ret))
def UP_:List RD:=[.tmp 2 true none]
theorem gi_:zm_ Tryz.prog Tryz.f213 gM_ UP_=true:=by kernel_rfl
def wk_:List AV->List Obj->Option (Prop × AV × List Obj)
 | [.imm (.int .u8) b],[]=>some ((True,.fn 232 [] [.ptr 0 0],[.box [.imm (.int .u8) b]]))
 | _,_=>none
theorem VC_:zd_ Tryz.prog 213 (RwF wk_).sum:=by
 refine qB_ Tryz.func213 gi_ (zc_ _) fun args objs p v o e=>?_
 unfold wk_ at e
 split at e
 ·rename_i b
  cases e
  refine ⟨rfl,fun hw ho hp=>?_⟩
  change List Int at b
  repeat'(intro t ht;first|(cases t<;>first|(cases ht;done)|(try simp only[zg_]at ht;try(exfalso;first|contradiction|omega)))|((first|refine zb_ ht ?_|refine ht ?_ ?_|refine ht.1 ?_ ?_|refine ht ?_)<;>clear ht))
  all_goals first
   | exact True.intro
   | exact ⟨rfl,rfl⟩
 ·cases e
def gL_:IR:=
(sq (kr [0] [oD 2 (.box [.nils]),
oD 3 (.box [.int .i64 0])])
(sq (sq (.reg [oM 8 0,
oC 9 213 [8]])
(.block 0
(.rng 9 [10,11] [2,3] 232
(sq (kr [2,3,10,11] [oD 4 (.box [.int .i64 0,.int .i64 0,.kb false,.int .u64 0,.nils,.nils]),
oS 6 4 10])
(.reg [oM 5 11]))
(.block 1
(sq (sq (kr [2,3,4,5] [oM 12 5,
oB 13 .neq 12 (cI 0)])
(.cond 13
(sq (.reg [oM 14 5,
oN (.store 1 2 (.c (.nils))),
oS 1 3 14])
.ret)
.skip))
(sq (.reg [oL 15 2,
oK 16 6 4,
oD 17 (.sliceAll Y1 1 [(0,6,16)]),
oD 18 (.append Y1 80 15 17),
oS 1 2 18])
(sq (kr [2,3] [oL 20 2,
oC 21 189 [20],
oM 19 21,
oX 22 19 0,
oX 23 19 1,
oM 6 22,
oM 7 23])
(sq (kr [2,3,7] [oM 24 7,
oB 25 .neq 24 (cI 0)])
(.cond 25
(sq (.reg [oM 26 7,
oN (.store 1 2 (.c (.nils))),
oS 1 3 26])
.ret)
.skip))))))
(.block 0
(.loop
(sq (sq (kr [0,1] [oL 6 1,
oE 7 6,
oB 8 .gtr 7 (cI 0)])
(.cond 8
.skip
(.exit 0)))
(.block 1
(sq (kr [0,1] [oL 10 1,
oC 11 233 [10],
oM 9 11,
oX 12 9 0,
oX 13 9 1,
oX 14 9 2,
oD 3 (.box [.int .i64 0,.int .i64 0,.kb false,.int .u64 0,.imm (.int .u8) [],.imm (.int .u8) []]),
oS 6 3 12,
oM 4 13,
oM 5 14])
(sq (sq (.keep [0,1,3,4,5]
(.yld [oM 15 0,
oK 16 6 3,
oM 17 5] (some 18) (.t 15) [(.t 16),(.t 17)] [0,1,4,5] [oD 19 (.un .not 18),
oM 20 19,
oF 20 21 (.mov 5),
oF 20 22 (.bin .neq 21 (cI 0)),
oP 23 20 cT 22]))
(.cond 23
.ret
.skip))
(kr [0,1,4] [oL 24 1,
oM 25 4,
oD 26 (.slice 1 24 (some 25) none none),
oS 1 1 26]))))))))))
(sq (kr [2,3] [oL 27 2,
oS 1 2 27,
oN (.store 1 3 (cI 0))])
.ret)))
def UO_:List RD:=[.cell 2 none true [(some Y1)],.cell 3 none true []]
theorem gh_:zm_ Tryz.prog Tryz.f196 gL_ UO_=true:=by kernel_rfl
def wj_:List AV->List Obj->Option (Prop × AV)
 | [.imm (.int .u8) b],[]=>some ((b.length<=100000000,.tup [.imm Y1 (mlG [] b).1,.int .i64 (mlG [] b).2]))
 | _,_=>none
theorem VB_:zd_ Tryz.prog 196 (RoF wj_).sum:=by
 refine zl_ Tryz.func196 gh_ (za_ (s:=RoF Kl_) Ws_ (za_ (s:=RwF wk_) VC_ (za_ (s:=RoF Kn_) Wu_ (zc_ _)))) fun args objs p v e=>?_
 unfold wj_ at e
 split at e
 ·rename_i b
  cases e
  refine ⟨rfl,fun hw ho hp=>?_⟩
  change List Int at b
  have hb:∀ x ∈ (b:List Int),(0:Int)<=x/\x<=255:=fun x hx=>(hw (.imm (.int .u8) b) (by simp)).1 x hx
  clear hw ho
  repeat'(intro t ht;first|(cases t<;>first|(cases ht;done)|(try simp only[zg_]at ht;try(exfalso;first|contradiction|omega)))|((first|refine zb_ ht ?_|refine ht ?_ ?_|refine ht.1 ?_ ?_|refine ht ?_)<;>clear ht))
  all_goals first
   | exact True.intro
   | (refine .inl fun lr ln=>?_)
  repeat'(intro t ht;first|(cases t<;>first|(cases ht;done)|(try simp only[zg_]at ht;try(exfalso;first|contradiction|omega)))|((first|refine zb_ ht ?_|refine ht ?_ ?_|refine ht.1 ?_ ?_|refine ht ?_)<;>clear ht))
  all_goals first
   | exact True.intro
   | (intro r h1 h2;clear h1;refine h2 ⟨[0,1],Option (List OV × List Int),(fun a=>match a with | none=>True | some a=>a.1.length+a.2.length<=b.length/\(∀ x ∈ a.2,0<=x/\x<=255)/\mlG [] b=mlG a.1 a.2),(fun a=>[.yv ln,.ptr 0 0]),(fun a=>match a with | none=>[.box [.imm (.int .u8) b],.box [.nils],.box [.int .i64 0],.lrec lr 0] | some a=>[.box [.imm (.int .u8) a.2],.box [.own 4],.box [.int .i64 0],.lrec lr 0,.row false Y1 a.1]),(fun a=>match a with | none=>b.length+1 | some a=>a.2.length),⟨none,True.intro,rfl,rfl⟩,?_⟩;clear h2)
  rintro (_ | ⟨acc,y⟩) hJ
  ·clear hJ
   repeat'(intro t ht;first|(cases t<;>first|(cases ht;done)|(try simp only[zg_]at ht;try(exfalso;first|contradiction|omega)))|((first|refine zb_ ht ?_|refine ht ?_ ?_|refine ht.1 ?_ ?_|refine ht ?_)<;>clear ht))
   all_goals (try dsimp only at*)
   all_goals first
    | exact True.intro
    | ((try simp only [zj_,zk_,zi_] at*);omega)
    | exact ⟨rfl,rfl⟩
    | (rw [v9_ (by omega)];exact ⟨rfl,rfl⟩)
    | (simp only [z0_,List.length_cons,List.length_nil];constructor<;>omega)
    | (have h0:zH_ b=0:=by assumption
       have hg:=Ve_ hb h0
       have e1:Zv_ b (z2_ b)=z2_ b:=if_pos h0
       have hv:=zhE_ h0
       first
        | (rw [e1];constructor<;>omega)
        | (have hc:¬ (ckS [] ([]++[(Zv_ b (zq_ b),Zv_ b (zv_ b),if zH_ b=0 then zY_ b else false,Zv_ b (Z6_ b),Z0_ b (Zj_ b),Z0_ b (Zk_ b),())])).2=0:=by assumption
           rw [hv] at hc
           have hm:=zbP_ (acc:=[]) (by omega) h0 hc
           rw [hm,<- hv];exact ⟨rfl,rfl⟩)
        | (have hc:(ckS [] ([]++[(Zv_ b (zq_ b),Zv_ b (zv_ b),if zH_ b=0 then zY_ b else false,Zv_ b (Z6_ b),Z0_ b (Zj_ b),Z0_ b (Zk_ b),())])).2=0:=by assumption
           rw [hv] at hc
           have hm:=zbO_ (acc:=[]) hb (by omega) h0 hc
           refine ⟨some ([]++[vO b],b.drop (z2_ b).toNat),⟨?_,fun x hx=>hb x (List.mem_of_mem_drop hx),hm⟩,?_,rfl,?_⟩
           ·simp only [List.length_append,List.length_cons,List.length_nil,List.length_drop];omega
           ·dsimp only;rw [List.length_drop];omega
           ·dsimp only;rw [e1,<- hv];rfl))
    | (have h0:¬ zH_ b=0:=by assumption
       rw [Hg_ (by omega) h0];exact ⟨rfl,rfl⟩)
  ·obtain ⟨j1,j2,j3⟩:=hJ
   dsimp only at j1 j2 j3
   repeat'(intro t ht;first|(cases t<;>first|(cases ht;done)|(try simp only[zg_]at ht;try(exfalso;first|contradiction|omega)))|((first|refine zb_ ht ?_|refine ht ?_ ?_|refine ht.1 ?_ ?_|refine ht ?_)<;>clear ht))
   all_goals (try dsimp only at*)
   all_goals first
    | exact True.intro
    | ((try simp only [zj_,zk_,zi_] at*);omega)
    | exact ⟨rfl,rfl⟩
    | (rw [j3,v9_ (by omega)];exact ⟨rfl,rfl⟩)
    | (simp only [z0_,List.length_cons,List.length_nil];constructor<;>omega)
    | (have h0:zH_ y=0:=by assumption
       have hg:=Ve_ j2 h0
       have e1:Zv_ y (z2_ y)=z2_ y:=if_pos h0
       have hv:=zhE_ h0
       first
        | (rw [e1];constructor<;>omega)
        | (have hc:¬ (ckS [] (acc++[(Zv_ y (zq_ y),Zv_ y (zv_ y),if zH_ y=0 then zY_ y else false,Zv_ y (Z6_ y),Z0_ y (Zj_ y),Z0_ y (Zk_ y),())])).2=0:=by assumption
           rw [hv] at hc
           have hm:=zbP_ (acc:=acc) (by omega) h0 hc
           rw [j3,hm,<- hv];exact ⟨rfl,rfl⟩)
        | (have hc:(ckS [] (acc++[(Zv_ y (zq_ y),Zv_ y (zv_ y),if zH_ y=0 then zY_ y else false,Zv_ y (Z6_ y),Z0_ y (Zj_ y),Z0_ y (Zk_ y),())])).2=0:=by assumption
           rw [hv] at hc
           have hm:=zbO_ (acc:=acc) j2 (by omega) h0 hc
           refine ⟨some (acc++[vO y],y.drop (z2_ y).toNat),⟨?_,fun x hx=>j2 x (List.mem_of_mem_drop hx),j3.trans hm⟩,?_,rfl,?_⟩
           ·simp only [List.length_append,List.length_cons,List.length_nil,List.length_drop];omega
           ·dsimp only;rw [List.length_drop];omega
           ·dsimp only;rw [e1,<- hv];rfl))
    | (have h0:¬ zH_ y=0:=by assumption
       rw [j3,Hg_ (by omega) h0];exact ⟨rfl,rfl⟩)
 ·cases e
def Wd_:IR:=
(sq (kr [0] [oD 2 (.mov (.c (.imm (.int .u8) [])))])
(sq (sq (.reg [oM 3 0,
oC 4 23 [3],
oB 5 .neq 4 (cI 0)])
(.cond 5
(sq (.reg [oD 2 (.mov (.c (.imm (.int .u8) [])))])
.ret)
.skip))
(sq (kd [0] [(oM 6 0,[]),
(oD 7 (.nilck 6),[]),
(oA 8 0 7,[]),
(oL 9 8,[]),
(oM 10 0,[0,0,0,0]),
(oD 11 (.nilck 10),[1,0,0,0]),
(oA 12 1 11,[2,0,0,0]),
(oL 13 12,[3,0,0,0]),
(oD 14 (.slice 1 9 (some 13) none none),[]),
(oC 15 60 [14],[]),
(oM 2 15,[])])
.ret)))
def wI_:List RD:=[.tmp 2 true (some (.int .u8))]
theorem wY_:zm_ Tryz.prog Tryz.f164 Wd_ wI_=true:=by kernel_rfl
def qQ_:List AV->List Obj->Option (Prop × AV)
 | [.ptr 0 0],[.box [.imm (.int .u8) b,.int .i64 p,.int .i64 sh,.int .i64 od,.int .i64 e,.bool true]]=>some ((0<=p/\p<=b.length/\b.length<=140737488355328,.imm (.int .u8) (if e=0 then b.drop p.toNat else [])))
 | _,_=>none
theorem Jl_:zd_ Tryz.prog 164 (RoF qQ_).sum:=by
 refine zl_ Tryz.func164 wY_ (za_ (s:=RoF zr_) zu_ (za_ (s:=RoF qn_) Qn_ (zc_ _))) fun args objs p v e=>?_
 unfold qQ_ at e
 split at e
 ·rename_i b p sh od e
  cases e
  refine ⟨rfl,fun hw ho hp=>?_⟩
  change List Int at b
  clear hw ho
  obtain ⟨h1,h2,h3⟩:=hp
  repeat'(intro t ht;first|(cases t<;>first|(cases ht;done)|(try simp only[zg_]at ht;try(exfalso;first|contradiction|omega)))|((first|refine zb_ ht ?_|refine ht ?_ ?_|refine ht.1 ?_ ?_|refine ht ?_)<;>clear ht))
  all_goals first
   | exact True.intro
   | (rw [List.length_drop];omega)
   | ((try simp only [zj_,zk_,zi_] at*);omega)
   | omega
   | (rw [if_pos (by assumption)];exact ⟨rfl,rfl⟩)
   | (rw [if_neg (by assumption)];exact ⟨rfl,rfl⟩)
 ·cases e
theorem get2 (b:List Int):z7_ [2] b=if b.length < 2 then ([],1) else ([zS_ (b.take 2)],0):=by
 have hr:zR_ [2]=true:=by decide
 unfold z7_
 rw [if_pos hr]
 have a2:zp_ 2=2:=by decide
 have t2:Int.toNat 2=2:=rfl
 have p2:(0:Int) < 2:=by decide
 simp only [Ze_,a2,t2,if_pos p2]
 by_cases h:b.length < 2
 ·rw [if_pos h,if_pos (by omega)]
 ·rw [if_neg h,if_neg (by omega)];rfl
theorem Hd_ {b:List Int} {p sh od:Int} (hp:0<=p) (h:p+2<=b.length):yA_ 2 b p 0=zS_ ((b.drop p.toNat).take 2)/\WP_ 2 b p 0=p+2/\x6_ 2 b p sh od 0=0:=by
 have e:z7_ [2] (b.drop p.toNat)=([zS_ ((b.drop p.toNat).take 2)],0):=by
  rw [get2,if_neg (by rw [List.length_drop];omega)]
 have es:zD_ [2]=2:=by decide
 unfold yA_ WP_ x6_ Qr_ qy_ ZW_ zA_ zx_
 rw [e,es];exact ⟨rfl,rfl,rfl⟩
theorem zcR_ {b:List Int} {p sh od:Int} (hp:0<=p/\p<=b.length) (h:¬ p+2<=b.length):yA_ 2 b p 0=0/\WP_ 2 b p 0=p/\x6_ 2 b p sh od 0=sh:=by
 have e:z7_ [2] (b.drop p.toNat)=([],1):=by
  rw [get2,if_pos (by rw [List.length_drop];omega)]
 unfold yA_ WP_ x6_ Qr_ qy_ ZW_ zA_ zx_
 rw [e];exact ⟨rfl,rfl,rfl⟩
theorem zgO_ {b:List Int} {p sh od e:Int} (he:e ≠ 0):yA_ 2 b p e=0/\WP_ 2 b p e=p/\x6_ 2 b p sh od e=e:=by
 unfold yA_ WP_ x6_ Qr_ qy_ ZW_
 rw [if_neg he,if_neg he,if_neg he];exact ⟨rfl,rfl,rfl⟩
theorem zez_ {b:List Int} {sh od:Int} (hs:sh ≠ 0):
 (¬ b.length < 4->yA_ 2 b 0 0=tT b/\WP_ 2 b 0 0=2/\x6_ 2 b 0 sh od 0=0/\yA_ 2 b 2 0=tN b/\WP_ 2 b 2 0=4/\x6_ 2 b 2 sh od 0=0)/\
 (b.length < 4->yA_ 2 b (WP_ 2 b 0 0) (x6_ 2 b 0 sh od 0)=0/\x6_ 2 b (WP_ 2 b 0 0) sh od (x6_ 2 b 0 sh od 0)=sh/\0<=WP_ 2 b 0 0/\WP_ 2 b 0 0<=b.length):=by
 constructor
 ·intro h
  obtain ⟨a1,a2,a3⟩:=Hd_ (b:=b) (p:=0) (sh:=sh) (od:=od) (by decide) (by omega)
  obtain ⟨b1,b2,b3⟩:=Hd_ (b:=b) (p:=2) (sh:=sh) (od:=od) (by decide) (by omega)
  exact ⟨a1,a2,a3,b1,b2,b3⟩
 ·intro h
  by_cases h2:b.length < 2
  ·obtain ⟨a1,a2,a3⟩:=zcR_ (b:=b) (p:=0) (sh:=sh) (od:=od) ⟨by decide,by omega⟩ (by omega)
   rw [a2,a3]
   obtain ⟨b1,b2,b3⟩:=zgO_ (b:=b) (p:=0) (sh:=sh) (od:=od) hs
   exact ⟨b1,b3,by decide,by omega⟩
  ·obtain ⟨a1,a2,a3⟩:=Hd_ (b:=b) (p:=0) (sh:=sh) (od:=od) (by decide) (by omega)
   rw [a2,a3]
   obtain ⟨b1,b2,b3⟩:=zcR_ (b:=b) (p:=0+2) (sh:=sh) (od:=od) ⟨by decide,by omega⟩ (by omega)
   exact ⟨b1,b3,by decide,by omega⟩
theorem zgT_ {k p sh:Int} {b:List Int} (hk:1<=k/\k<=7) (hp:0<=p) (h:p+k<=b.length):qy_ [0 - k] b p 0=(if zF_ ((b.drop p.toNat).take k.toNat)=true then p+k else p)/\ZW_ [0 - k] b p sh sh 0=(if zF_ ((b.drop p.toNat).take k.toNat)=true then 0 else sh):=by
 have hr:zR_ [0 - k]=true:=by
  rw [Zb_];refine ⟨by simp,fun n hn=>?_⟩
  simp only [List.mem_cons,List.not_mem_nil,or_false] at hn
  subst hn;omega
 have ha:zp_ (0 - k)=k:=by unfold zp_;split<;>omega
 have hl:(b.drop p.toNat).length=b.length - p.toNat:=List.length_drop
 have e:z7_ [0 - k] (b.drop p.toNat)=([],if zF_ ((b.drop p.toNat).take k.toNat)=true then 0 else 2):=by
  unfold z7_;rw [if_pos hr]
  simp only [Ze_,ha]
  rw [if_neg (by omega),if_neg (by omega)]
  split<;>rfl
 have es:zD_ [0 - k]=k:=by
  unfold zD_;rw [if_pos hr];simp only [List.map_cons,List.map_nil,List.sum_cons,List.sum_nil,ha];omega
 unfold qy_ ZW_ zx_
 rw [e,es]
 cases hz:zF_ ((b.drop p.toNat).take k.toNat) with
 | true=>exact ⟨rfl,rfl⟩
 | false=>exact ⟨rfl,rfl⟩
def mdZ (b:List Int):Bool:=zF_ ((b.drop (tN b).toNat).take (pz (tN b)).toNat)
def mdE (b:List Int):Int:=if b.length < 4 then 1026 else if ¬ tT b=1 then 1025 else if tN b < 4\/65528 < tN b\/b.length < tN b+pz (tN b) then 1026 else if ¬ (mlG [] (bd b)).2=0 then (mlG [] (bd b)).2 else if mdZ b=true then 0 else 1026
def mdL (b:List Int):List OV:=if mdE b=0 then (mlG [] (bd b)).1 else []
def mdN (b:List Int):Int:=if mdE b=0 then tN b+pz (tN b) else 0
theorem KC_ {b:List Int} {e:Int} (h:mdE b=e) (h0:¬ e=0):mdL b=[]/\mdN b=0:=by
 unfold mdL mdN;rw [h,if_neg h0,if_neg h0];exact ⟨rfl,rfl⟩
def vZ_:IR:=
(sq (kr [0] [oD 2 (.mov (.c (.imm Y1 []))),
oD 3 (.mov (cI 0)),
oD 4 (.mov (cI 0))])
(sq (.reg [oM 12 0,
oC 13 20 [12,(cI 1026),(cI 1026)],
oM 5 13])
(sq (kr [0,5] [oM 14 5,
oC 15 195 [14,(cI 2)],
oM 16 5,
oC 17 195 [16,(cI 2)],
oD 18 (.conv .i64 17),
oM 6 15,
oM 7 18])
(sq (.block 0
(sq (kr [0,5,6,7] [oM 20 5,
oC 21 23 [20],
oB 22 .neq 21 (cI 0),
oM 19 22])
(.cond 19
(sq (kr [5] [oM 23 5,
oC 24 23 [23],
oD 2 (.mov (.c (.imm Y1 []))),
oD 3 (.mov (cI 0)),
oM 4 24])
.ret)
(sq (.reg [oM 26 6,
oB 27 .neq 26 (.c (.int .u64 1)),
oM 25 27])
(.cond 25
(sq (kr [] [oD 2 (.mov (.c (.imm Y1 []))),
oD 3 (.mov (cI 0)),
oD 4 (.mov (cI 1025))])
.ret)
(sq (kr [0,5,7] [oM 29 7,
oB 30 .lss 29 (cI 4),
oM 31 30,
oF 31 32 (.mov 7),
oF 31 33 (.bin .gtr 32 (cI 65528)),
oP 34 31 cT 33,
oM 35 34,
oF 35 36 (.mov 7),
oF 35 37 (.mov 7),
oF 35 38 (.call false (.f 160) [37]),
oF 35 39 (.bin .add 36 38),
oF 35 40 (.mov 0),
oF 35 41 (.len 40),
oF 35 42 (.bin .gtr 39 41),
oP 43 35 cT 42,
oM 28 43])
(.cond 28
(sq (kr [] [oD 2 (.mov (.c (.imm Y1 []))),
oD 3 (.mov (cI 0)),
oD 4 (.mov (cI 1026))])
.ret)
.skip)))))))
(sq (kr [5,7] [oM 45 5,
oM 46 7,
oB 47 .sub 46 (cI 4),
oC 48 21 [45,47],
oC 49 196 [48],
oM 44 49,
oX 50 44 0,
oX 51 44 1,
oM 8 50,
oM 9 51])
(sq (sq (kr [5,7,8,9] [oM 52 9,
oB 53 .neq 52 (cI 0)])
(.cond 53
(sq (.reg [oM 54 9,
oD 2 (.mov (.c (.imm Y1 []))),
oD 3 (.mov (cI 0)),
oM 4 54])
.ret)
.skip))
(sq (sq (kr [5,7,8] [oM 55 7,
oC 56 160 [55],
oM 10 56])
(sq (.reg [oM 57 10,
oB 58 .gtr 57 (cI 0)])
(.cond 58
(kr [5,8,10] [oM 59 5,
oM 60 10,
oD 61 (.un .neg 60),
oD 62 (.sliceAll (.int .i64) 1 [(0,1,61)]),
oC 63 107 [59,62]])
.skip)))
(sq (sq (.reg [oM 64 5,
oC 65 23 [64],
oM 11 65])
(sq (kr [5,8,11] [oM 66 11,
oB 67 .neq 66 (cI 0)])
(.cond 67
(sq (.reg [oM 68 11,
oD 2 (.mov (.c (.imm Y1 []))),
oD 3 (.mov (cI 0)),
oM 4 68])
.ret)
.skip)))
(sq (kr [5,8] [oM 69 8,
oM 70 5,
oC 71 118 [70],
oM 2 69,
oM 3 71,
oD 4 (.mov (cI 0))])
.ret)))))))))
def vH_:List RD:=[.tmp 2 true (some Y1),.tmp 3 true none,.tmp 4 true none]
theorem vP_:zm_ Tryz.prog Tryz.f165 vZ_ vH_=true:=by kernel_rfl
def KP_:List AV->List Obj->Option (Prop × AV)
 | [.imm (.int .u8) b],[]=>some ((b.length<=100000000,.tup [.imm Y1 (mdL b),.int .i64 (mdN b),.int .i64 (mdE b)]))
 | _,_=>none
theorem y4_:zd_ Tryz.prog 165 (RoF KP_).sum:=by
 refine zl_ Tryz.func165 vP_ (za_ (s:=RwF qf_) qz_ (za_ (s:=RwF Z1_) kd_ (za_ (s:=RoF zr_) zu_ (za_ (s:=RoF kH_) wt_ (za_ (s:=RwF zK_) zV_ (za_ (s:=RoF wj_) VB_ (za_ (s:=RwF z5_) Zr_ (za_ (s:=RoF ZO_) qA_ (zc_ _))))))))) fun args objs p v e=>?_
 unfold KP_ at e
 split at e
 ·rename_i b
  cases e
  refine ⟨rfl,fun hw ho hp=>?_⟩
  change List Int at b
  have hb:∀ x ∈ (b:List Int),(0:Int)<=x/\x<=255:=fun x hx=>(hw (.imm (.int .u8) b) (by simp)).1 x hx
  clear hw ho
  have hn2:0<=tN b/\tN b<=65535:=K3_ (a:=2) hb
  have hz:=Y9_ hn2.1
  obtain ⟨T1,T2⟩:=zez_ (b:=b) (sh:=1026) (od:=1026) (by decide)
  by_cases h4:b.length < 4
  ·obtain ⟨n1,n2,n3,n4⟩:=T2 h4
   have hE:mdE b=1026:=if_pos h4
   obtain ⟨m1,m2⟩:=KC_ hE (by decide)
   rw [m1,m2,hE]
   repeat'(intro t ht;first|(cases t<;>first|(cases ht;done)|(try simp only[zg_]at ht))|((first|refine zb_ ht ?_|refine ht ?_ ?_|refine ht.1 ?_ ?_|refine ht ?_)<;>clear ht))
   all_goals (try simp only [n1,n2,Hi_,Hl_] at*)
   all_goals first
    | exact True.intro
    | exact ⟨n3,n4,by omega⟩
    | omega
    | exact ⟨by decide,by omega,by omega⟩
    | exact ⟨rfl,by first | rfl | exact True.intro⟩
    | exact ⟨True.intro,True.intro⟩
    | (exfalso;simp_all;done)
  ·obtain ⟨n1,n2,n3,n4,n5,n6⟩:=T1 h4
   by_cases ht:tT b=1
   ·by_cases hr:tN b < 4\/65528 < tN b\/b.length < tN b+pz (tN b)
    ·have hE:mdE b=1026:=by unfold mdE;rw [if_neg h4,if_neg (not_not_intro ht),if_pos hr]
     obtain ⟨m1,m2⟩:=KC_ hE (by decide)
     rw [m1,m2,hE]
     repeat'(intro t ht;first|(cases t<;>first|(cases ht;done)|(try simp only[zg_]at ht))|((first|refine zb_ ht ?_|refine ht ?_ ?_|refine ht.1 ?_ ?_|refine ht ?_)<;>clear ht))
     all_goals (try simp only [n1,n2,n3,n4,n5,n6,ht] at*)
     all_goals first
      | exact True.intro
      | contradiction
      | omega
      | ((try simp only [zj_,zk_,zi_] at*);omega)
      | exact ⟨by decide,by omega,by omega⟩
      | exact ⟨rfl,by first | rfl | exact True.intro⟩
      | exact ⟨True.intro,True.intro⟩
      | (exfalso;omega)
    ·have hE0:mdE b=if ¬ (mlG [] (bd b)).2=0 then (mlG [] (bd b)).2 else if mdZ b=true then 0 else 1026:=by unfold mdE;rw [if_neg h4,if_neg (not_not_intro ht),if_neg hr]
     obtain ⟨k1,k2,k3⟩:=Jb_ (n:=tN b - 4) (p:=4) (sh:=1026) (b:=b) (by omega) (by omega)
     have k4:(b.take (4+(tN b - 4)).toNat).drop (4:Int).toNat=bd b:=by unfold bd;rw [show 4+(tN b - 4)=tN b by omega];rfl
     rw [k4] at k1
     have k5:(4:Int)+(tN b - 4)=tN b:=by omega
     rw [k5] at k2
     have hbl:=zf0_ hb
     by_cases hg:(mlG [] (bd b)).2=0
     ·rw [if_neg (not_not_intro hg)] at hE0
      by_cases hk:0 < pz (tN b)
      ·obtain ⟨r1,r2⟩:=zgT_ (sh:=1026) (b:=b) (p:=tN b) (k:=pz (tN b)) (by omega) (by omega) (by omega)
       have hZ:zF_ ((b.drop (tN b).toNat).take (pz (tN b)).toNat)=mdZ b:=rfl
       rw [hZ] at r1 r2
       cases hz0:mdZ b with
       | true=>
         rw [hz0] at hE0 r1 r2
         rw [if_pos rfl] at r1 r2 hE0
         have m1:mdL b=(mlG [] (bd b)).1:=if_pos hE0
         have m2:mdN b=tN b+pz (tN b):=if_pos hE0
         rw [m1,m2,hE0]
         repeat'(intro t ht;first|(cases t<;>first|(cases ht;done)|(try simp only[zg_]at ht))|((first|refine zb_ ht ?_|refine ht ?_ ?_|refine ht.1 ?_ ?_|refine ht ?_)<;>clear ht))
         all_goals (try simp only [n1,n2,n3,n4,n5,n6,ht,k1,k2,k3,hg,r1,r2] at*)
         all_goals first
          | exact True.intro
          | contradiction
          | omega
          | ((try simp only [zj_,zk_,zi_] at*);omega)
          | exact ⟨by omega,by omega,by omega,by decide⟩
          | exact ⟨by omega,by omega,by omega⟩
          | exact ⟨rfl,by first | rfl | exact True.intro⟩
          | exact ⟨True.intro,True.intro⟩
          | (exfalso;omega)
       | false=>
         rw [hz0] at hE0 r1 r2
         rw [if_neg (by decide)] at r1 r2 hE0
         obtain ⟨m1,m2⟩:=KC_ hE0 (by decide)
         rw [m1,m2,hE0]
         repeat'(intro t ht;first|(cases t<;>first|(cases ht;done)|(try simp only[zg_]at ht))|((first|refine zb_ ht ?_|refine ht ?_ ?_|refine ht.1 ?_ ?_|refine ht ?_)<;>clear ht))
         all_goals (try simp only [n1,n2,n3,n4,n5,n6,ht,k1,k2,k3,hg,r1,r2] at*)
         all_goals first
          | exact True.intro
          | contradiction
          | omega
          | ((try simp only [zj_,zk_,zi_] at*);omega)
          | exact ⟨by omega,by omega,by omega,by decide⟩
          | exact ⟨by omega,by omega,by omega⟩
          | exact ⟨rfl,by first | rfl | exact True.intro⟩
          | exact ⟨True.intro,True.intro⟩
          | (exfalso;omega)
      ·have hk0:pz (tN b)=0:=by omega
       have hz0:mdZ b=true:=by unfold mdZ;rw [hk0];rfl
       rw [hz0,if_pos rfl] at hE0
       have m1:mdL b=(mlG [] (bd b)).1:=if_pos hE0
       have m2:mdN b=tN b:=by have:mdN b=tN b+pz (tN b):=if_pos hE0;omega
       rw [m1,m2,hE0]
       repeat'(intro t ht;first|(cases t<;>first|(cases ht;done)|(try simp only[zg_]at ht))|((first|refine zb_ ht ?_|refine ht ?_ ?_|refine ht.1 ?_ ?_|refine ht ?_)<;>clear ht))
       all_goals (try simp only [n1,n2,n3,n4,n5,n6,ht,k1,k2,k3,hg] at*)
       all_goals first
        | exact True.intro
        | contradiction
        | omega
        | ((try simp only [zj_,zk_,zi_] at*);omega)
        | exact ⟨by omega,by omega,by omega,by decide⟩
        | exact ⟨by omega,by omega,by omega⟩
        | exact ⟨rfl,by first | rfl | exact True.intro⟩
        | exact ⟨True.intro,True.intro⟩
        | (exfalso;omega)
     ·rw [if_pos hg] at hE0
      obtain ⟨m1,m2⟩:=KC_ hE0 hg
      rw [m1,m2,hE0]
      repeat'(intro t ht;first|(cases t<;>first|(cases ht;done)|(try simp only[zg_]at ht))|((first|refine zb_ ht ?_|refine ht ?_ ?_|refine ht.1 ?_ ?_|refine ht ?_)<;>clear ht))
      all_goals (try simp only [n1,n2,n3,n4,n5,n6,ht,k1,k2,k3] at*)
      all_goals first
       | exact True.intro
       | contradiction
       | omega
       | ((try simp only [zj_,zk_,zi_] at*);omega)
       | exact ⟨by omega,by omega,by omega,by decide⟩
       | exact ⟨by omega,by omega,by omega⟩
       | exact ⟨rfl,by first | rfl | exact True.intro⟩
       | exact ⟨True.intro,True.intro⟩
       | (exfalso;omega)
   ·have hE:mdE b=1025:=by unfold mdE;rw [if_neg h4,if_pos ht]
    obtain ⟨m1,m2⟩:=KC_ hE (by decide)
    rw [m1,m2,hE]
    repeat'(intro t ht;first|(cases t<;>first|(cases ht;done)|(try simp only[zg_]at ht))|((first|refine zb_ ht ?_|refine ht ?_ ?_|refine ht.1 ?_ ?_|refine ht ?_)<;>clear ht))
    all_goals (try simp only [n1,n2,n3,n4,n5,n6] at*)
    all_goals first
     | exact True.intro
     | contradiction
     | omega
     | ((try simp only [zj_,zk_,zi_] at*);omega)
     | exact ⟨by decide,by omega,by omega⟩
     | exact ⟨rfl,by first | rfl | exact True.intro⟩
     | exact ⟨True.intro,True.intro⟩
     | (exfalso;omega)
 ·cases e
def mtL (b:List Int) (p e:Int):List OV:=if e=0 then mdL (b.drop p.toNat) else []
def mtP (b:List Int) (p e:Int):Int:=if e=0 then p+mdN (b.drop p.toNat) else p
def mtE (b:List Int) (p e:Int):Int:=if e=0 then mdE (b.drop p.toNat) else e
theorem Hj_ (b:List Int) (hb:∀ x ∈ b,0<=x/\x<=255):0<=mdN b/\mdN b<=b.length:=by
 have hn2:0<=tN b/\tN b<=65535:=K3_ (a:=2) hb
 have hz:=Y9_ hn2.1
 unfold mdN;split
 ·rename_i h
  unfold mdE at h
  split at h
  ·cases h
  ·split at h
   ·cases h
   ·split at h
    ·cases h
    ·omega
 ·omega
def gN_:IR:=
(sq (kr [0] [oD 2 (.mov (.c (.imm Y1 [])))])
(sq (sq (.reg [oM 7 0,
oC 8 23 [7],
oB 9 .neq 8 (cI 0)])
(.cond 9
(sq (.reg [oD 2 (.mov (.c (.imm Y1 [])))])
.ret)
.skip))
(sq (.reg [oM 10 0,
oC 11 164 [10],
oM 3 11])
(sq (kr [0,3] [oM 13 3,
oC 14 165 [13],
oM 12 14,
oX 15 12 0,
oX 16 12 1,
oX 17 12 2,
oM 4 15,
oM 5 16,
oM 6 17])
(sq (kr [0,4,5,6] [oM 18 0,
oM 19 6,
oC 20 63 [18,19]])
(sq (.reg [oM 21 0,
oM 22 5,
oC 23 21 [21,22]])
(sq (.reg [oM 24 4,
oM 2 24])
.ret)))))))
def UQ_:List RD:=[.tmp 2 true (some Y1)]
theorem gj_:zm_ Tryz.prog Tryz.f108 gN_ UQ_=true:=by kernel_rfl
def wl_:List AV->List Obj->Option (Prop × AV × List Obj)
 | [.ptr 0 0],[.box [.imm (.int .u8) b,.int .i64 p,.int .i64 sh,.int .i64 od,.int .i64 e,.bool true]]=>some ((0<=p/\p<=b.length/\b.length<=100000000/\sh ≠ 0,.imm Y1 (mtL b p e),[.box [.imm (.int .u8) b,.int .i64 (mtP b p e),.int .i64 sh,.int .i64 od,.int .i64 (mtE b p e),.bool true]]))
 | _,_=>none
theorem VD_:zd_ Tryz.prog 108 (RwF wl_).sum:=by
 refine qB_ Tryz.func108 gj_ (za_ (s:=RoF zr_) zu_ (za_ (s:=RoF qQ_) Jl_ (za_ (s:=RoF KP_) y4_ (za_ (s:=RwF zt_) zw_ (za_ (s:=RwF zK_) zV_ (zc_ _)))))) fun args objs p v o e=>?_
 unfold wl_ at e
 split at e
 ·rename_i b p sh od e
  cases e
  refine ⟨rfl,fun hw ho hp=>?_⟩
  change List Int at b
  have hb:∀ x ∈ (b:List Int),(0:Int)<=x/\x<=255:=fun x hx=>((ho _ (List.mem_cons_self ..)) (.imm (.int .u8) b) (by simp)).1 x hx
  clear hw ho
  obtain ⟨h1,h2,h3,h4⟩:=hp
  have hbd:∀ x ∈ b.drop p.toNat,(0:Int)<=x/\x<=255:=fun x hx=>hb x (List.mem_of_mem_drop hx)
  have hN:=Hj_ _ hbd
  have hl:(b.drop p.toNat).length=b.length - p.toNat:=List.length_drop
  by_cases he:e=0
  ·subst he
   have f0:∀ x,zs_ 0 x=x:=fun x=>if_pos rfl
   have hT:Qt_ (mdN (b.drop p.toNat)) b p sh (mdE (b.drop p.toNat))=p+mdN (b.drop p.toNat)/\Zw_ (mdN (b.drop p.toNat)) b p sh (mdE (b.drop p.toNat))=mdE (b.drop p.toNat):=by
    have hE:Zw_ (mdN (b.drop p.toNat)) b p sh (mdE (b.drop p.toNat))=mdE (b.drop p.toNat):=by
     unfold Zw_;rw [if_neg (by omega),if_neg (by omega)]
    refine ⟨?_,hE⟩
    unfold Qt_;rw [hE]
    by_cases h0:mdE (b.drop p.toNat)=0
    ·rw [if_pos h0]
    ·rw [if_neg h0,(KC_ rfl h0).2];omega
   repeat'(intro t ht;first|(cases t<;>first|(cases ht;done)|(try simp only[zg_]at ht;try(exfalso;first|contradiction|omega)))|((first|refine zb_ ht ?_|refine ht ?_ ?_|refine ht.1 ?_ ?_|refine ht ?_)<;>clear ht))
   all_goals (try simp only [if_true,f0,hT] at*)
   all_goals first
    | exact True.intro
    | exact ⟨h1,h2,by omega,h4⟩
    | exact ⟨h1,h2,by omega⟩
    | omega
    | (unfold mtL mtP mtE;exact ⟨rfl,by first | rfl | exact True.intro⟩)
    | (exfalso;simp_all;done)
  ·repeat'(intro t ht;first|(cases t<;>first|(cases ht;done)|(try simp only[zg_]at ht;try(exfalso;first|contradiction|omega)))|((first|refine zb_ ht ?_|refine ht ?_ ?_|refine ht.1 ?_ ?_|refine ht ?_)<;>clear ht))
   all_goals first
    | exact True.intro
    | (unfold mtL mtP mtE;rw [if_neg he,if_neg he,if_neg he];exact ⟨rfl,by first | rfl | exact True.intro⟩)
    | (exfalso;simp_all;done)
 ·cases e
theorem zi2_ {y:List Int} (h:rE y=0):((rI y (zq_ y),rI y (zv_ y),(if rE y=0 then zY_ y else false),rI y (Z6_ y),rR y (Zj_ y),rR y (Zk_ y),()):OV)=vO y:=by
 unfold rI rR vO;simp only [if_pos h]
theorem zgl_ {b:List Int} {i m:Nat} (h:i < b.length) (hm:0 < m):zF_ ((b.drop i).take m)=(decide (b.getD i 0=0) && zF_ ((b.drop (i+1)).take (m - 1))):=by
 obtain ⟨k,rfl⟩:∃ k,m=k+1:=⟨m - 1,by omega⟩
 rw [zy_ h 0,List.take_succ_cons];rfl
theorem zfc_ {b:List Int} (h4:¬ b.length < 4) (ht:tT b=1) (hr:¬ (tN b < 4\/65528 < tN b\/b.length < tN b+pz (tN b))):mdE b=if ¬ (mlG [] (bd b)).2=0 then (mlG [] (bd b)).2 else if mdZ b=true then 0 else 1026:=by
 unfold mdE;rw [if_neg h4,if_neg (not_not_intro ht),if_neg hr]
theorem zcX_ {b:List Int} {e:Int} (h4:¬ b.length < 4) (ht:tT b=1) (hr:¬ (tN b < 4\/65528 < tN b\/b.length < tN b+pz (tN b))) (he:(mlG [] (bd b)).2=e) (h0:¬ e=0):mdE b=e/\mdL b=[]/\mdN b=0:=by
 have h:=zfc_ h4 ht hr
 rw [he,if_pos h0] at h
 exact ⟨h,KC_ h h0⟩
def gz_:IR:=
(sq (kr [0] [oD 2 (.nilrow Y1),
oD 3 (.mov (cI 0)),
oD 4 (.mov (cI 0))])
(sq (sq (.reg [oM 14 0,
oE 15 14,
oB 16 .lss 15 (cI 4)])
(.cond 16
(sq (kr [] [oD 2 (.nilrow Y1),
oD 3 (.mov (cI 0)),
oD 4 (.mov (cI 1026))])
.ret)
.skip))
(sq (sq (kr [0] [oM 17 0,
oD 18 (.slice 1 17 none (some (cI 2)) none),
oC 19 123 [18],
oB 20 .neq 19 (.c (.int .u64 1))])
(.cond 20
(sq (.reg [oD 2 (.nilrow Y1),
oD 3 (.mov (cI 0)),
oD 4 (.mov (cI 1025))])
.ret)
.skip))
(sq (kr [0] [oM 21 0,
oD 22 (.slice 1 21 (some (cI 2)) (some (cI 4)) none),
oC 23 123 [22],
oD 24 (.conv .i64 23),
oM 5 24])
(sq (sq (kr [0,5] [oM 25 5,
oB 26 .lss 25 (cI 4),
oM 27 26,
oF 27 28 (.mov 5),
oF 27 29 (.bin .gtr 28 (cI 65528)),
oP 30 27 cT 29,
oM 31 30,
oF 31 32 (.mov 5),
oF 31 33 (.mov 5),
oF 31 34 (.call false (.f 166) [33]),
oF 31 35 (.bin .add 32 34),
oF 31 36 (.mov 0),
oF 31 37 (.len 36),
oF 31 38 (.bin .gtr 35 37),
oP 39 31 cT 38])
(.cond 39
(sq (kr [] [oD 2 (.nilrow Y1),
oD 3 (.mov (cI 0)),
oD 4 (.mov (cI 1026))])
.ret)
.skip))
(sq (kr [0,5] [oD 6 (.nilrow Y1)])
(sq (sq (.reg [oD 7 (.mov (cI 4))])
(.block 0
(.loop
(sq (sq (kr [0,5,6,7] [oM 40 7,
oM 41 5,
oB 42 .lss 40 41])
(.cond 42
.skip
(.exit 0)))
(.block 1
(sq (kr [0,5,6,7] [oM 44 0,
oM 45 7,
oM 46 5,
oD 47 (.slice 1 44 (some 45) (some 46) none),
oC 48 167 [47],
oM 43 48,
oX 49 43 0,
oX 50 43 1,
oX 51 43 2,
oD 8 (.box [.int .i64 0,.int .i64 0,.kb false,.int .u64 0,.imm (.int .u8) [],.imm (.int .u8) []]),
oS 6 8 49,
oM 9 50,
oM 10 51])
(sq (sq (kr [0,5,6,7,8,9,10] [oM 52 10,
oB 53 .neq 52 (cI 0)])
(.cond 53
(sq (.reg [oM 54 10,
oD 2 (.nilrow Y1),
oD 3 (.mov (cI 0)),
oM 4 54])
.ret)
.skip))
(sq (kr [0,5,6,7,8,9] [oM 55 6,
oK 56 6 8,
oD 57 (.sliceAll Y1 1 [(0,6,56)]),
oD 58 (.append Y1 80 55 57),
oM 6 58])
(sq (sq (kr [0,5,6,7,9] [oM 60 6,
oC 61 168 [60],
oM 59 61,
oX 62 59 0,
oX 63 59 1,
oM 11 62,
oM 12 63])
(sq (kr [0,5,6,7,9,12] [oM 64 12,
oB 65 .neq 64 (cI 0)])
(.cond 65
(sq (.reg [oM 66 12,
oD 2 (.nilrow Y1),
oD 3 (.mov (cI 0)),
oM 4 66])
.ret)
.skip)))
(kr [0,5,6,7,9] [oM 67 7,
oM 68 9,
oB 69 .add 67 68,
oM 7 69]))))))))))
(sq (sq (kr [0,5,6] [oM 70 5,
oM 13 70])
(.block 2
(.loop
(sq (sq (kr [0,5,6,13] [oM 71 13,
oM 72 5,
oM 73 5,
oC 74 166 [73],
oB 75 .add 72 74,
oB 76 .lss 71 75])
(.cond 76
.skip
(.exit 2)))
(sq (.block 3
(sq (kr [0,5,6,13] [oM 79 0,
oM 80 13,
oI 81 1 79 80,
oL 82 81,
oB 83 .neq 82 (.c (.int .u8 0))])
(.cond 83
(sq (.reg [oD 2 (.nilrow Y1),
oD 3 (.mov (cI 0)),
oD 4 (.mov (cI 1026))])
.ret)
.skip)))
(kr [0,5,6,13] [oM 77 13,
oB 78 .add 77 (cI 1),
oM 13 78]))))))
(sq (kr [5,6] [oM 84 6,
oM 85 5,
oM 86 5,
oC 87 166 [86],
oB 88 .add 85 87,
oM 2 84,
oM 3 88,
oD 4 (.mov (cI 0))])
.ret)))))))))
def UC_:List RD:=[.tmp 2 true (some Y1),.tmp 3 true none,.tmp 4 true none]
theorem U5_:zm_ Tryz.prog Tryz.f109 gz_ UC_=true:=by kernel_rfl
def wa_:List AV->List Obj->Option (Prop × AV)
 | [.imm (.int .u8) b],[]=>some ((b.length<=1000000,.tup [.imm Y1 (mdL b),.int .i64 (mdN b),.int .i64 (mdE b)]))
 | _,_=>none
theorem Vu_:zd_ Tryz.prog 109 (RoF wa_).sum:=by
 refine zl_ Tryz.func109 U5_ (za_ (s:=RoF Qz_) kB_ (za_ (s:=RoF xo_) Uo_ (za_ (s:=RoF Kj_) Wp_ (za_ (s:=RoF xp_) Up_ (zc_ _))))) fun args objs p v e=>?_
 unfold wa_ at e
 split at e
 ·rename_i b
  cases e
  refine ⟨rfl,fun hw ho hp=>?_⟩
  change List Int at b
  have hb:∀ x ∈ (b:List Int),(0:Int)<=x/\x<=255:=fun x hx=>(hw (.imm (.int .u8) b) (by simp)).1 x hx
  clear hw ho
  have hn2:0<=tN b/\tN b<=65535:=K3_ (a:=2) hb
  have hz:=Y9_ hn2.1
  have v1:zS_ (b.take (2:Int).toNat)=tT b:=rfl
  have v2:zS_ ((b.take (4:Int).toNat).drop (2:Int).toNat)=tN b:=by unfold tN;rw [List.drop_take];rfl
  have q2:(b.take 2).length<=8:=by rw [List.length_take];omega
  have q4:((b.take 4).drop 2).length<=8:=by rw [List.length_drop,List.length_take];omega
  by_cases h4:b.length < 4
  ·have hE:mdE b=1026:=if_pos h4
   obtain ⟨m1,m2⟩:=KC_ hE (by decide)
   rw [m1,m2,hE]
   repeat'(intro t ht;first|(cases t<;>first|(cases ht;done)|(try simp only[zg_]at ht;try(exfalso;first|contradiction|omega)))|((first|refine zb_ ht ?_|refine ht ?_ ?_|refine ht.1 ?_ ?_|refine ht ?_)<;>clear ht))
   all_goals first
    | exact True.intro
    | exact ⟨rfl,by first | rfl | exact True.intro⟩
  ·by_cases ht1:tT b=1
   ·by_cases hr:tN b < 4\/65528 < tN b\/b.length < tN b+pz (tN b)
    ·have hE:mdE b=1026:=by unfold mdE;rw [if_neg h4,if_neg (not_not_intro ht1),if_pos hr]
     obtain ⟨m1,m2⟩:=KC_ hE (by decide)
     rw [m1,m2,hE]
     repeat'(intro t ht;first|(cases t<;>first|(cases ht;done)|(try simp only[zg_]at ht))|((first|refine zb_ ht ?_|refine ht ?_ ?_|refine ht.1 ?_ ?_|refine ht ?_)<;>clear ht))
     all_goals (try simp only [v1,v2] at*)
     all_goals first
      | exact True.intro
      | contradiction
      | exact q2
      | exact q4
      | omega
      | ((try simp only [zj_,zk_,zi_] at*);omega)
      | exact ⟨rfl,by first | rfl | exact True.intro⟩
      | exact ⟨True.intro,True.intro⟩
      | (exfalso;omega)
    ·have hN:(b.take (tN b).toNat).length=(tN b).toNat:=by rw [List.length_take];omega
     repeat'(intro t ht;first|(cases t<;>first|(cases ht;done)|(try simp only[zg_]at ht))|((first|refine zb_ ht ?_|refine ht ?_ ?_|refine ht.1 ?_ ?_|refine ht ?_)<;>clear ht))
     all_goals first
      | exact True.intro
      | contradiction
      | exact q2
      | exact q4
      | omega
      | (rw [v2];(try simp only [zj_,zk_,zi_] at*);omega)
      | (exfalso;rw [v2] at*;omega)
      | (exfalso;rw [v1] at*;contradiction)
      | (intro r h1 h2;clear h1;refine h2 ⟨[0,5,6,7],Nat × List OV,(fun a=>4<=a.1/\a.1<=tN b/\a.2.length<=a.1/\mlG [] (bd b)=mlG a.2 ((b.take (tN b).toNat).drop a.1)),(fun a=>[.imm (.int .u8) b,.int .i64 (tN b),.own 0,.int .i64 a.1]),(fun a=>[.row false Y1 a.2]),(fun a=>b.length - a.1),⟨(4,[]),⟨Nat.le_refl _,by dsimp only;omega,Nat.zero_le _,rfl⟩,(by rw [<- v2];rfl),rfl⟩,?_⟩;clear h2)
     rintro ⟨k,acc⟩ ⟨k1,k2,k3,k4⟩
     dsimp only at k1 k2 k3 k4
     have hyb:∀ x ∈ (b.take (tN b).toNat).drop k,(0:Int)<=x/\x<=255:=fun x hx=>hb x (List.mem_of_mem_take (List.mem_of_mem_drop hx))
     have hdl:=HU_ hyb
     have hyl:((b.take (tN b).toNat).drop k).length=(tN b).toNat - k:=by rw [List.length_drop,hN]
     by_cases hkn:(k:Int) < tN b
     ·repeat'(intro t ht;first|(cases t<;>first|(cases ht;done)|(try simp only[zg_]at ht;try(exfalso;first|contradiction|omega)))|((first|refine zb_ ht ?_|refine ht ?_ ?_|refine ht.1 ?_ ?_|refine ht ?_)<;>clear ht))
      all_goals (try simp only [z0_,Int.toNat_natCast])
      all_goals generalize hy:(b.take (tN b).toNat).drop k=y at*
      all_goals have hyn:¬ y.length=0:=by omega
      all_goals first
       | exact True.intro
       | ((try simp only [zj_,zk_,zi_] at*);omega)
       | (have h0:¬ rE y=0:=by assumption
          have hg:=Hg_ (acc:=acc) hyn (show ¬ zH_ y=0 by rw [hdl];exact h0)
          rw [hg,hdl] at k4
          obtain ⟨m0,m1,m2⟩:=zcX_ (e:=rE y) h4 ht1 hr (by rw [k4]) h0
          rw [m0,m1,m2];exact ⟨rfl,by first | rfl | exact True.intro⟩)
       | (have h0:rE y=0:=by assumption
          have hd0:zH_ y=0:=hdl.trans h0
          have hv:=zi2_ h0
          have hg:=Ve_ hyb hd0
          have e1:rI y (z2_ y)=z2_ y:=if_pos h0
          simp only [e1,hv] at*
          first
           | (simp only [List.length_cons,List.length_nil];constructor<;>omega)
           | ((try simp only [zj_,zk_,zi_] at*);omega)
           | (have hc:¬ (ckS [] (acc++[vO y])).2=0:=by assumption
              have hm:=zbP_ (acc:=acc) hyn hd0 hc
              rw [hm] at k4
              obtain ⟨m0,m1,m2⟩:=zcX_ h4 ht1 hr (by rw [k4]) hc
              rw [m0,m1,m2];exact ⟨rfl,by first | rfl | exact True.intro⟩)
           | (have hc:(ckS [] (acc++[vO y])).2=0:=by assumption
              have hm:=zbO_ (acc:=acc) hyb hyn hd0 hc
              refine ⟨(k+(z2_ y).toNat,acc++[vO y]),⟨?_,?_,?_,?_⟩,?_,?_,rfl⟩
              ·dsimp only;omega
              ·dsimp only;omega
              ·simp only [List.length_append,List.length_cons,List.length_nil];omega
              ·dsimp only;rw [k4,hm,<- hy,List.drop_drop]
              ·dsimp only;omega
              ·dsimp only;rw [Int.natCast_add,Int.toNat_of_nonneg (by omega)];rfl))
     ·have hnil:=v9_ (acc:=acc) (y:=(b.take (tN b).toNat).drop k) (by omega)
      have hmi:=zfc_ h4 ht1 hr
      rw [k4,hnil,if_neg (not_not_intro rfl)] at hmi
      repeat'(intro t ht;first|(cases t<;>first|(cases ht;done)|(try simp only[zg_]at ht;try(exfalso;first|contradiction|omega)))|((first|refine zb_ ht ?_|refine ht ?_ ?_|refine ht.1 ?_ ?_|refine ht ?_)<;>clear ht))
      all_goals first
       | exact True.intro
       | ((try simp only [zj_,zk_,zi_] at*);omega)
       | (intro r h1 h2;clear h1;refine h2 ⟨[0,5,6,13],Nat,(fun i=>tN b<=i/\i<=tN b+pz (tN b)/\mdZ b=zF_ ((b.drop i).take (tN b+pz (tN b) - i).toNat)),(fun i=>[.imm (.int .u8) b,.int .i64 (tN b),.own 0,.int .i64 i]),(fun i=>[.row false Y1 acc]),(fun i=>b.length - i),⟨(tN b).toNat,⟨by omega,by omega,by unfold mdZ;rw [show (tN b+pz (tN b) - ((tN b).toNat:Nat)).toNat=(pz (tN b)).toNat by omega]⟩,(by dsimp only;rw [Int.toNat_of_nonneg hn2.1];try rfl),rfl⟩,?_⟩;clear h2)
      rintro i ⟨i1,i2,i3⟩
      repeat'(intro t ht;first|(cases t<;>first|(cases ht;done)|(try simp only[zg_]at ht;try(exfalso;first|contradiction|omega)))|((first|refine zb_ ht ?_|refine ht ?_ ?_|refine ht.1 ?_ ?_|refine ht ?_)<;>clear ht))
      all_goals first
       | exact True.intro
       | ((try simp only [zj_,zk_,zi_] at*);omega)
       | (simp only [Int.toNat_natCast];omega)
       | (have hge:¬ (i:Int) < tN b+pz (tN b):=by assumption
          have hz0:mdZ b=true:=by rw [i3,show (tN b+pz (tN b) - (i:Int)).toNat=0 by omega];rfl
          rw [if_pos hz0] at hmi
          have m1:mdL b=acc:=by unfold mdL;rw [if_pos hmi,k4,hnil]
          have m2:mdN b=tN b+pz (tN b):=if_pos hmi
          rw [m1,m2,hmi];exact ⟨rfl,by first | rfl | exact True.intro⟩)
       | (have hlt:i < b.length:=by omega
          have hs:=zgl_ (b:=b) (i:=i) (m:=(tN b+pz (tN b) - (i:Int)).toNat) hlt (by omega)
          rw [hs] at i3
          first
           | (have hq:b.getD i 0=0:=by assumption
              rw [hq] at i3
              refine ⟨i+1,⟨by omega,by omega,?_⟩,by dsimp only;omega,rfl,rfl⟩
              rw [i3,show (tN b+pz (tN b) - ((i+1:Nat):Int)).toNat=(tN b+pz (tN b) - (i:Int)).toNat - 1 by omega];rfl)
           | (have hq:¬ b.getD i 0=0:=by assumption
              have hz0:mdZ b=false:=by rw [i3,decide_eq_false hq];rfl
              rw [hz0] at hmi
              have hE:mdE b=1026:=hmi
              obtain ⟨m1,m2⟩:=KC_ hE (by decide)
              rw [m1,m2,hE];exact ⟨rfl,by first | rfl | exact True.intro⟩))
   ·have hE:mdE b=1025:=by unfold mdE;rw [if_neg h4,if_pos ht1]
    obtain ⟨m1,m2⟩:=KC_ hE (by decide)
    rw [m1,m2,hE]
    repeat'(intro t ht;first|(cases t<;>first|(cases ht;done)|(try simp only[zg_]at ht))|((first|refine zb_ ht ?_|refine ht ?_ ?_|refine ht.1 ?_ ?_|refine ht ?_)<;>clear ht))
    all_goals (try simp only [v1,v2] at*)
    all_goals first
     | exact True.intro
     | contradiction
     | exact q2
     | exact q4
     | omega
     | ((try simp only [zj_,zk_,zi_] at*);omega)
     | exact ⟨rfl,by first | rfl | exact True.intro⟩
     | exact ⟨True.intro,True.intro⟩
     | (exfalso;omega)
 ·cases e
structure WrOk (room:Int) (f:List Int->Int->List Int × Int) (v:Option (List Int)):Prop where
 ok:∀ y,v=some y->∀ l:List Int,(l.length:Int)+y.length<=room->f l 0=(l++y,0)
 full:∀ y,v=some y->∀ l:List Int,(l.length:Int)<=room->¬ (l.length:Int)+y.length<=room->(f l 0).2 ≠ 0
 bad:v=none->∀ l:List Int,(f l 0).2 ≠ 0
 ne:∀ (l:List Int) (e:Int),e ≠ 0->(f l e).2 ≠ 0
def Uj_ (a b:Option (List Int)):Option (List Int):=match a,b with | some x,some y=>some (x++y) | _,_=>none
theorem WrOk.seq {room:Int} {f g:List Int->Int->List Int × Int} {v w:Option (List Int)} (hf:WrOk room f v) (hg:WrOk room g w):WrOk room (fun l e=>g (f l e).1 (f l e).2) (Uj_ v w):=by
 cases v with
 | none=>exact ⟨fun y h=>(by cases h),fun y h=>(by cases h),fun _ l=>hg.ne _ _ (hf.bad rfl l),fun l e h=>hg.ne _ _ (hf.ne l e h)⟩
 | some x=>
   cases w with
   | none=>
     refine ⟨fun y h=>(by cases h),fun y h=>(by cases h),fun _ l=>?_,fun l e h=>hg.ne _ _ (hf.ne l e h)⟩
     show (g (f l 0).1 (f l 0).2).2 ≠ 0
     by_cases h0:(f l 0).2=0
     ·rw [h0];exact hg.bad rfl _
     ·exact hg.ne _ _ h0
   | some z=>
     refine ⟨fun y h l hl=>?_,fun y h l h0 hl=>?_,fun h=>(by cases h),fun l e h=>hg.ne _ _ (hf.ne l e h)⟩
     ·cases h
      rw [List.length_append] at hl
      show g (f l 0).1 (f l 0).2=_
      rw [hf.ok x rfl l (by omega)]
      show g (l++x) 0=_
      rw [hg.ok z rfl _ (by rw [List.length_append];omega),List.append_assoc]
     ·cases h
      rw [List.length_append] at hl
      show (g (f l 0).1 (f l 0).2).2 ≠ 0
      by_cases c:(l.length:Int)+x.length<=room
      ·rw [hf.ok x rfl l c]
       exact hg.full z rfl _ (by rw [List.length_append];omega) (by rw [List.length_append];omega)
      ·exact hg.ne _ _ (hf.full x rfl l h0 c)
theorem WrOk.fin {room:Int} {f:List Int->Int->List Int × Int} {v:Option (List Int)} (h:WrOk room f v) (h0:0<=room):(∀ y,v=some y->(y.length:Int)<=room->f [] 0=(y,0))/\((∀ y,v=some y->room < (y.length:Int))->(f [] 0).2 ≠ 0):=by
 refine ⟨fun y e hl=>h.ok y e [] (by simpa using hl),fun hy=>?_⟩
 cases v with
 | none=>exact h.bad rfl []
 | some y=>have:=hy y rfl;exact h.full y rfl [] (by simpa using h0) (by simp;omega)
theorem bd_ (room:Int) (x:List Int):WrOk room (fun l e=>(QY_ x l room e,QH_ x l room e)) (some x):=
 ⟨fun y h l hl=>by cases h;obtain ⟨a,b⟩:=Kg_ (x:=x) (l:=l) (room:=room) (by omega);rw [a,b],fun y h l _ hl=>by cases h;exact xd_ (by omega),fun h=>(by cases h),fun l e h=>J2_ h⟩
def bx_ (w xs:List Int):Option (List Int):=if Qg_ w xs=true then some (ZT_ w xs) else none
theorem GO_ (room:Int) (w xs:List Int):WrOk room (fun l e=>(QG_ w xs l room e,q2_ w xs l room e)) (bx_ w xs):=by
 unfold bx_
 by_cases hk:Qg_ w xs=true
 ·have h:=bd_ room (ZT_ w xs)
  rw [if_pos hk]
  unfold QG_ q2_
  simp only [if_pos hk]
  exact h
 ·rw [if_neg hk]
  unfold QG_ q2_
  simp only [if_neg hk]
  exact ⟨fun y h=>(by cases h),fun y h=>(by cases h),fun _ l=>by show (10001:Int) ≠ 0;decide,fun l e h=>Qx_ h⟩
theorem hJ_ {room:Int}:∀ (r:List OV) (l:List Int) (e:Int),e ≠ 0->(puS room r l e).2 ≠ 0
 | [],l,e,h=>h
 | o :: r,l,e,h=>by unfold puS;exact hJ_ r _ _ (J2_ (Qx_ h))
theorem b9_ {room:Int}:∀ (r:List OV) (l:List Int),r.all rgO=true->(l.length:Int)<=room->¬ ((l.length:Int)+(boO r).length<=room)->(puS room r l 0).2 ≠ 0
 | [],l,_,h0,h1=>by exfalso;apply h1;show (l.length:Int)+0<=room;omega
 | o :: r,l,h,h0,h1=>by
   rw [List.all_cons,Bool.and_eq_true] at h
   obtain ⟨_,h2,h3,_⟩:=hh_ h.1
   rw [show boO (o :: r)=ecO o++boO r from List.flatMap_cons,List.length_append] at h1
   have f0:zs_ 0 0=0:=rfl
   unfold puS
   rw [h2,h3,f0]
   by_cases hf:((ecO o).length:Int)<=room - l.length
   ·obtain ⟨b1,b2⟩:=Kg_ hf
    rw [b1,b2]
    exact b9_ r _ h.2 (by rw [List.length_append];omega) (by rw [List.length_append];omega)
   ·exact hJ_ _ _ _ (xd_ hf)
def matO (x:List OV):Option (List Int):=if rgM x=true then some (meB x) else none
theorem zep_ (room:Int) (x:List OV):WrOk room (fun l e=>(mpB x l room e,mpE x l room e)) (matO x):=by
 unfold matO
 cases hr:rgM x with
 | false=>
   rw [if_neg (by decide)]
   refine ⟨fun y h=>(by cases h),fun y h=>(by cases h),fun _ l=>?_,fun l e h=>?_⟩
   ·show mpE x l room 0 ≠ 0;rw [(ze6_ hr).2];decide
   ·show mpE x l room e ≠ 0;rw [(ze6_ hr).2];exact Qx_ h
 | true=>
   rw [if_pos rfl]
   obtain ⟨p1,_,_,p4,p5⟩:=jP_ hr
   have hlen:=zcW_ x (by omega)
   refine ⟨fun y h l hl=>?_,fun y h l h0 hl=>?_,fun h=>(by cases h),fun l e h=>?_⟩
   ·cases h
    obtain ⟨a,b⟩:=zjj_ (l:=l) (room:=room) hr (by omega)
    show (mpB x l room 0,mpE x l room 0)=_;rw [a,b]
   ·cases h
    show mpE x l room 0 ≠ 0
    have hN:meN x=4+((boO x).length:Int):=rfl
    have hL:qi_ x=meN x:=(jP_ hr).2.2.1
    unfold mpE mpS
    rw [if_pos hr]
    by_cases c1:(4:Int)<=room - l.length
    ·have hk:Qg_ [2,2] [1,qi_ x]=true:=by
      rw [hL];exact (by_ (a:=1) (n:=meN x) (by omega) (by omega)).2
     have hs:=xJ_ hk
     rw [show zD_ [2,2]=4 by decide] at hs
     have r1:QG_ [2,2] [1,qi_ x] l room 0=l++ZT_ [2,2] [1,qi_ x]/\q2_ [2,2] [1,qi_ x] l room 0=0:=by
      unfold QG_ q2_;rw [if_pos hk,if_pos hk];exact Kg_ (by omega)
     rw [r1.1,r1.2]
     by_cases c2:((l++ZT_ [2,2] [1,qi_ x]).length:Int)+(boO x).length<=room
     ·rw [zbt_ x _ p1 c2]
      refine xd_ ?_
      unfold mpZ
      rw [List.length_replicate,hL,List.length_append,List.length_append]
      rw [List.length_append] at c2
      rw [hL] at hs
      have:=Y9_ (n:=meN x) (by omega)
      omega
     ·exact J2_ (b9_ x _ p1 (by rw [List.length_append];omega) c2)
    ·have hk:Qg_ [2,2] [1,qi_ x]=true:=by
      rw [hL];exact (by_ (a:=1) (n:=meN x) (by omega) (by omega)).2
     have hs:=xJ_ hk
     rw [show zD_ [2,2]=4 by decide] at hs
     refine J2_ (hJ_ _ _ _ ?_)
     unfold q2_;rw [if_pos hk];exact xd_ (by omega)
   ·show mpE x l room e ≠ 0
    unfold mpE mpS;rw [if_pos hr]
    exact J2_ (hJ_ _ _ _ (zgA_ h))
def actO (x:List AC):Option (List Int):=if rgL x=true then some (boA x) else none
theorem zgo_ (room:Int) (x:List AC):WrOk room (fun l e=>(apB x l room e,apE x l room e)) (actO x):=by
 unfold actO
 cases hr:rgL x with
 | false=>
   rw [if_neg (by decide)]
   refine ⟨fun y h=>(by cases h),fun y h=>(by cases h),fun _ l=>?_,fun l e h=>?_⟩
   ·show apE x l room 0 ≠ 0;rw [(zf6_ hr).2];decide
   ·show apE x l room e ≠ 0;rw [(zf6_ hr).2];exact Qx_ h
 | true=>
   rw [if_pos rfl]
   refine ⟨fun y h l hl=>?_,fun y h l h0 hl=>?_,fun h=>(by cases h),fun l e h=>ziS_ h⟩
   ·cases h
    obtain ⟨a,b⟩:=zjH_ (l:=l) hr hl
    show (apB x l room 0,apE x l room 0)=_;rw [a,b]
   ·cases h
    show apE x l room 0 ≠ 0
    unfold apE;rw [if_pos hr]
    exact bf_ _ _ (Kt_ hr).1 h0 hl
theorem zi0_ (room:Int) (B:List Int->Int->List Int):WrOk room (fun l e=>(B l e,zs_ e 10001)) none:=
 ⟨fun y h=>(by cases h),fun y h=>(by cases h),fun _ l=>(by decide:(10001:Int) ≠ 0),fun l e h=>Qx_ h⟩
theorem xF_ {w n y:List Int} (h:bx_ w n=some y):Qg_ w n=true/\ZT_ w n=y:=by
 unfold bx_ at h;split at h
 ·cases h;exact ⟨by assumption,rfl⟩
 ·cases h
theorem jF_ {a b:Option (List Int)} {y:List Int} (h:Uj_ a b=some y):∃ p q,a=some p/\b=some q/\y=p++q:=by
 cases a with
 | none=>cases h
 | some p=>cases b with
   | none=>cases h
   | some q=>cases h;exact ⟨p,q,rfl,rfl,rfl⟩
theorem zdi_ {x:List AC} {l:List Int} {room e:Int} (h:l.length<=1000000) (hr:room<=1000000):(apB x l room e).length<=1000000:=by
 unfold apB;split
 ·exact zcv_ hr _ _ _ h
 ·exact h
def w10:List Int:=[4,2,1,1,8]
def nz3 (n:List Int) (i:Nat):Int:=(n++[0,0,0]).getD i 0
def Z4_ (n d:List Int):Bool:=decide (2 < nz3 n 2) || decide (nz3 n 1 < (d.length:Int))
def ZZ_ (n d:List Int):Bool:=decide (nz3 n 1=0) || (decide (¬ nz3 n 0=4294967295) && decide (0 < d.length))
def p10B (n:List Int) (x:List OV) (l:List Int) (e:Int):List Int:=QG_ [-2] [] (mpB x (QG_ w10 n l 65527 e) 65527 (q2_ w10 n l 65527 e)) 65527 (mpE x (QG_ w10 n l 65527 e) 65527 (q2_ w10 n l 65527 e))
def p10E (n:List Int) (x:List OV) (l:List Int) (e:Int):Int:=q2_ [-2] [] (mpB x (QG_ w10 n l 65527 e) 65527 (q2_ w10 n l 65527 e)) 65527 (mpE x (QG_ w10 n l 65527 e) 65527 (q2_ w10 n l 65527 e))
def r13B (n:List Int) (a:List AC) (l:List Int) (e:Int):List Int:=QG_ [2,-6] [szL a] (QG_ [4,4] n l 65527 e) 65527 (q2_ [4,4] n l 65527 e)
def r13E (n:List Int) (a:List AC) (l:List Int) (e:Int):Int:=q2_ [2,-6] [szL a] (QG_ [4,4] n l 65527 e) 65527 (q2_ [4,4] n l 65527 e)
def p13B (n:List Int) (a:List AC) (l:List Int) (e:Int):List Int:=apB a (r13B n a l e) 65527 (r13E n a l e)
def p13E (n:List Int) (a:List AC) (l:List Int) (e:Int):Int:=apE a (r13B n a l e) 65527 (r13E n a l e)
def pkB (t:Int) (n d:List Int) (x:List OV) (a:List AC) (l:List Int) (e:Int):List Int:=if t=10 then (if Z4_ n d=true then l else p10B n x l e) else if t=13 then (if ZZ_ n d=true then l else p13B n a l e) else l
def pkE (t:Int) (n d:List Int) (x:List OV) (a:List AC) (l:List Int) (e:Int):Int:=if t=10 then (if Z4_ n d=true then zs_ e 10001 else p10E n x l e) else if t=13 then (if ZZ_ n d=true then zs_ e 10001 else p13E n a l e) else zs_ e 10001
def vO10 (n:List Int) (x:List OV):Option (List Int):=Uj_ (Uj_ (bx_ w10 n) (matO x)) (bx_ [-2] [])
def vO13 (n:List Int) (a:List AC):Option (List Int):=Uj_ (Uj_ (bx_ [4,4] n) (bx_ [2,-6] [szL a])) (actO a)
def Vn_ (t:Int) (n d:List Int) (x:List OV) (a:List AC):Option (List Int):=if t=10 then (if Z4_ n d=true then none else vO10 n x) else if t=13 then (if ZZ_ n d=true then none else vO13 n a) else none
theorem zi1_ (t:Int) (n d:List Int) (x:List OV) (a:List AC):WrOk 65527 (fun l e=>(QY_ d (pkB t n d x a l e) 65527 (pkE t n d x a l e),QH_ d (pkB t n d x a l e) 65527 (pkE t n d x a l e))) (Uj_ (Vn_ t n d x a) (some d)):=by
 refine WrOk.seq (f:=fun l e=>(pkB t n d x a l e,pkE t n d x a l e)) (v:=Vn_ t n d x a) ?_ (bd_ 65527 d)
 have hno:=zi0_ 65527 fun l _=>l
 unfold pkB pkE Vn_
 by_cases h10:t=10
 ·simp only [if_pos h10]
  cases hb:Z4_ n d with
  | true=>exact hno
  | false=>exact ((GO_ 65527 w10 n).seq (zep_ 65527 x)).seq (GO_ 65527 [-2] [])
 ·simp only [if_neg h10]
  by_cases h13:t=13
  ·simp only [if_pos h13]
   cases hb:ZZ_ n d with
   | true=>exact hno
   | false=>exact ((GO_ 65527 [4,4] n).seq (GO_ 65527 [2,-6] [szL a])).seq (zgo_ 65527 a)
  ·simp only [if_neg h13];exact hno
def Xi_ (m:VMs):Bool:=decide (m.2.2.1.length=0) && decide (m.2.2.2.1.length=0) && decide (m.2.2.2.2.1.length=0) && decide (m.2.2.2.2.2.1.length=0) && decide (m.2.2.2.2.2.2.1.length=0) && decide (m.2.2.2.2.2.2.2.1.length=0) && decide (m.2.2.2.2.2.2.2.2.1.length=0) && decide (m.2.2.2.2.2.2.2.2.2.1.length=0) && decide (m.2.2.2.2.2.2.2.2.2.2.1.length=0) && decide (m.2.2.2.2.2.2.2.2.2.2.2.1.length=0) && decide (m.2.2.2.2.2.2.2.2.2.2.2.2.1=0) && decide (m.2.2.2.2.2.2.2.2.2.2.2.2.2.1=0) && decide (m.2.2.2.2.2.2.2.2.2.2.2.2.2.2.1.length=0)
theorem zhj_ {m:VMs}:Xi_ m=true ↔ m=(m.1,m.2.1,[],[],[],[],[],[],[],[],[],[],0,0,[],()):=by
 obtain ⟨a0,a1,a2,a3,a4,a5,a6,a7,a8,a9,a10,a11,a12,a13,a14,_⟩:=m
 unfold Xi_
 simp only [Bool.and_eq_true,decide_eq_true_eq,List.length_eq_zero_iff,Prod.mk.injEq,true_and,and_true,and_assoc]
abbrev mT (m:VMs):=m.1
abbrev mN (m:VMs):=m.2.2.1
abbrev mD (m:VMs):=m.2.2.2.1
abbrev mX (m:VMs):=m.2.2.2.2.2.1
abbrev mA (m:VMs):=m.2.2.2.2.2.2.1
def Gi_ (b10 b13:Bool) (m:VMs):VMs:=(m.1,m.2.1,[],[],m.2.2.2.2.1,(if b10=true then [] else mX m),(if b13=true then [] else mA m),m.2.2.2.2.2.2.2)
def wrR (m:VMs):List Int × Int:=match Uj_ (Vn_ (mT m) (mN m) (mD m) (mX m) (mA m)) (some (mD m)) with
 | some y=>if Xi_ (Gi_ (decide (mT m=10)) (decide (mT m=13)) m)=true then (if (65527:Int) < y.length then ([],10001) else (y,0)) else ([],10001)
 | none=>([],10001)
def Gt_ (m:VMs):List Int × Int:=(QY_ (mD m) (pkB (mT m) (mN m) (mD m) (mX m) (mA m) [] 0) 65527 (pkE (mT m) (mN m) (mD m) (mX m) (mA m) [] 0),QH_ (mD m) (pkB (mT m) (mN m) (mD m) (mX m) (mA m) [] 0) 65527 (pkE (mT m) (mN m) (mD m) (mX m) (mA m) [] 0))
theorem zgn_ (m:VMs):(((Gt_ m).2=0/\Xi_ (Gi_ (decide (mT m=10) && !Z4_ (mN m) (mD m)) (decide (mT m=13) && !ZZ_ (mN m) (mD m)) m)=true)->wrR m=((Gt_ m).1,0))/\(¬ ((Gt_ m).2=0/\Xi_ (Gi_ (decide (mT m=10) && !Z4_ (mN m) (mD m)) (decide (mT m=13) && !ZZ_ (mN m) (mD m)) m)=true)->wrR m=([],10001)):=by
 obtain ⟨f1,f2⟩:=(zi1_ (mT m) (mN m) (mD m) (mX m) (mA m)).fin (by decide)
 unfold wrR
 cases hv:Uj_ (Vn_ (mT m) (mN m) (mD m) (mX m) (mA m)) (some (mD m)) with
 | none=>
   have h:(Gt_ m).2 ≠ 0:=f2 fun y e=>by rw [hv] at e;cases e
   exact ⟨fun k=>absurd k.1 h,fun _=>rfl⟩
 | some y=>
   have hb10:(decide (mT m=10) && !Z4_ (mN m) (mD m))=decide (mT m=10):=by
    cases hb:Z4_ (mN m) (mD m) with
    | false=>simp
    | true=>
      by_cases h:mT m=10
      ·exfalso;unfold Vn_ at hv;rw [if_pos h,hb] at hv;cases hv
      ·rw [decide_eq_false h];rfl
   have hb13:(decide (mT m=13) && !ZZ_ (mN m) (mD m))=decide (mT m=13):=by
    cases hb:ZZ_ (mN m) (mD m) with
    | false=>simp
    | true=>
      by_cases h:mT m=13
      ·exfalso;unfold Vn_ at hv;rw [if_neg (by rw [h];decide),if_pos h,hb] at hv;cases hv
      ·rw [decide_eq_false h];rfl
   rw [hb10,hb13]
   dsimp only
   by_cases hl:(65527:Int) < y.length
   ·have h:(Gt_ m).2 ≠ 0:=f2 fun y' e=>by rw [hv] at e;cases e;exact hl
    refine ⟨fun k=>absurd k.1 h,fun _=>?_⟩
    split<;>simp [hl]
   ·have h:Gt_ m=(y,0):=f1 y hv (by omega)
    rw [h]
    constructor
    ·intro k;rw [if_pos k.2,if_neg hl]
    ·intro k;rw [if_neg fun q=>k ⟨rfl,q⟩]
theorem rowN {w b:List Int} (hb:∀ x ∈ b,0<=x/\x<=255) (h:zx_ w b=0):((zA_ w b).length:Int)=z4_ w/\zD_ w<=b.length:=by
 obtain ⟨p1,p2,p3⟩:=Yu_ hb (show z7_ w b=(zA_ w b,0) from Prod.ext rfl h)
 unfold Qg_ jn_ at p1
 split at p1
 ·rename_i hc;exact ⟨hc.2.symm,p3⟩
 ·cases p1
theorem zc3_ (b:List Int):zx_ [-2] b=if b.length < 2 then 1 else if zF_ (b.take 2)=true then 0 else 2:=by
 have hr:zR_ [-2]=true:=by decide
 unfold zx_ z7_
 rw [if_pos hr]
 have a2:zp_ (-2)=2:=by decide
 have t2:Int.toNat 2=2:=rfl
 have p2:¬ (0:Int) < -2:=by decide
 simp only [Ze_,a2,t2,if_neg p2]
 by_cases h:b.length < 2
 ·rw [if_pos h,if_pos (by omega)]
 ·rw [if_neg h,if_neg (by omega)]
  split<;>rfl
theorem zar_:∀ (w b o:List Int),(∀ n ∈ w,0 < n)->(Ze_ w b o).2 ≠ 2
 | [],b,o,_=>by unfold Ze_;exact (by decide:(0:Int) ≠ 2)
 | n :: r,b,o,h=>by
   unfold Ze_
   split
   ·exact (by decide:(1:Int) ≠ 2)
   ·rw [if_pos (h n (List.mem_cons_self ..))]
    exact zar_ r _ _ fun k hk=>h k (List.mem_cons_of_mem _ hk)
theorem ziA_ (b:List Int):zx_ w10 b ≠ 2:=by
 unfold zx_ z7_
 rw [if_pos (by decide)]
 exact zar_ _ _ _ (by decide)
def w13:List Int:=[4,4,2,-6]
theorem zhN_ {y:List Int} (h:16<=y.length):z7_ w13 y=if zF_ ((y.drop 10).take 6)=true then ([zS_ (y.take 4),zS_ ((y.drop 4).take 4),zS_ ((y.drop 8).take 2)],0) else ([],2):=by
 have hr:zR_ w13=true:=by decide
 unfold z7_
 rw [if_pos hr]
 have a4:zp_ 4=4:=by decide
 have a2:zp_ 2=2:=by decide
 have a6:zp_ (-6)=6:=by decide
 have t4:Int.toNat 4=4:=rfl
 have t2:Int.toNat 2=2:=rfl
 have t6:Int.toNat 6=6:=rfl
 have p4:(0:Int) < 4:=by decide
 have p2:(0:Int) < 2:=by decide
 have p6:¬ (0:Int) < -6:=by decide
 unfold w13
 simp only [Ze_,a4,a2,a6,List.length_drop,t4,t2,t6,if_pos p4,if_pos p2,if_neg p6,List.drop_drop]
 rw [if_neg (by omega),if_neg (by omega),if_neg (by omega),if_neg (by omega)]
 rfl
def m13 (b:List Int):Int:=(zA_ w13 b).getD 2 0
theorem Hn_ {b:List Int} (hb:∀ x ∈ b,0<=x/\x<=255):0<=m13 b/\m13 b<=65535:=by
 unfold m13
 by_cases hk:zx_ w13 b=0
 ·have hs:=(rowN hb hk).2
  rw [show zD_ w13=16 by decide] at hs
  have hg:=zhN_ (y:=b) (by omega)
  have hq:=xK_ ((b.drop 8).take 2) fun x hx=>hb x (List.mem_of_mem_drop (List.mem_of_mem_take hx))
  have hl:((b.drop 8).take 2).length=2:=by rw [List.length_take,List.length_drop];omega
  rw [hl] at hq
  unfold zA_;rw [hg]
  split
  ·show 0<=zS_ ((b.drop 8).take 2)/\zS_ ((b.drop 8).take 2)<=65535
   omega
  ·exact ⟨by decide,by decide⟩
 ·rw [uI_ hk];exact ⟨by decide,by decide⟩
def r10 (b:List Int):List Int:=b.drop (16+(mdN (b.drop 16)).toNat)
def e10 (b:List Int):Int:=if zx_ w10 b ≠ 0 then 263 else if 2 < (zA_ w10 b).getD 2 0 then 269 else if mdE (b.drop 16) ≠ 0 then mdE (b.drop 16) else if (r10 b).length < 2 then 263 else if zF_ ((r10 b).take 2)=false\/(zA_ w10 b).getD 1 0 < ((r10 b).length:Int) - 2 then 269 else 0
def e13 (b:List Int):Int:=if zx_ w13 b=1 then 263 else if zx_ w13 b=2 then 269 else if (zA_ w13 b).getD 1 0=0 then 268 else if (b.length:Int) < 16+m13 b then 263 else if adE ((b.drop 16).take (m13 b).toNat) ≠ 0 then adE ((b.drop 16).take (m13 b).toNat) else if ¬ (zA_ w13 b).getD 0 0=4294967295/\16+m13 b < b.length then 269 else 0
def v10 (b:List Int):VMs:=(10,0,zA_ w10 b,(r10 b).drop 2,[],mdL (b.drop 16),[],[],[],[],[],[],0,0,[],())
def v13 (b:List Int):VMs:=(13,0,(zA_ w13 b).take 2,b.drop (16+(m13 b).toNat),[],[],adL ((b.drop 16).take (m13 b).toNat),[],[],[],[],[],0,0,[],())
def zMs:VMs:=(0,0,[],[],[],[],[],[],[],[],[],[],0,0,[],())
def jm_ (t:Int) (b:List Int):Int:=if t=10 then (if e10 b=0/\(65527:Int) < b.length then 263 else e10 b) else if t=13 then (if e13 b=0/\(65527:Int) < b.length then 263 else e13 b) else 10001
def ZQ_ (t:Int) (b:List Int):VMs:=if jm_ t b=0 then (if t=10 then v10 b else v13 b) else zMs
def i1L (b:List Int):List Int:=Qr_ w10 b 0 0++[0,0,0,0,0]
def i2E (b:List Int):Int:=if 2 < (i1L b).getD 2 0 then zs_ (ZW_ w10 b 0 263 269 0) 269 else ZW_ w10 b 0 263 269 0
def i3P (b:List Int):Int:=mtP b (qy_ w10 b 0 0) (i2E b)
def i3E (b:List Int):Int:=mtE b (qy_ w10 b 0 0) (i2E b)
def i4P (b:List Int):Int:=qy_ [-2] b (i3P b) (i3E b)
def i4E (b:List Int):Int:=ZW_ [-2] b (i3P b) 263 269 (i3E b)
def iD (b:List Int):List Int:=if i4E b=0 then b.drop (i4P b).toNat else []
def i5P (b:List Int):Int:=if i4E b=0 then (b.length:Int) else i4P b
def i5E (b:List Int):Int:=if (i1L b).getD 1 0 < ((iD b).length:Int) then zs_ (i4E b) 269 else i4E b
def iX (b:List Int):List OV:=mtL b (qy_ w10 b 0 0) (i2E b)
def o1L (b:List Int):List Int:=Qr_ w13 b 0 0++[0,0,0]
def o2E (b:List Int):Int:=if (o1L b).getD 1 0=0 then zs_ (ZW_ w13 b 0 263 269 0) 268 else ZW_ w13 b 0 263 269 0
def o3P (b:List Int):Int:=Qt_ ((o1L b).getD 2 0) b (qy_ w13 b 0 0) 263 (o2E b)
def o3E (b:List Int):Int:=atE ((o1L b).getD 2 0) b (qy_ w13 b 0 0) 263 (o2E b)
def uA (b:List Int):List AC:=atL ((o1L b).getD 2 0) b (qy_ w13 b 0 0) 263 (o2E b)
def uD (b:List Int):List Int:=if o3E b=0 then b.drop (o3P b).toNat else []
def o4P (b:List Int):Int:=if o3E b=0 then (b.length:Int) else o3P b
def o5E (b:List Int):Int:=if ¬ (o1L b).getD 0 0=4294967295/\0 < ((uD b).length:Int) then zs_ (o3E b) 269 else o3E b
theorem jU_ {e x:Int} (h:e ≠ 0):zs_ e x=e:=by unfold zs_;rw [if_neg h]
theorem HW_ {w b:List Int} {p sh od e:Int} (h:e ≠ 0):ZW_ w b p sh od e=e:=by unfold ZW_;rw [if_neg h]
theorem qj_ {l r:List Int} {i:Nat} (h:i < l.length):(l++r).getD i 0=l.getD i 0:=by
 simp only [List.getD_eq_getElem?_getD,List.getElem?_append_left h]
theorem zjn_ {b:List Int} (hb:∀ x ∈ b,0<=x/\x<=255):i5E b=e10 b/\(e10 b=0->(i1L b).take 5=zA_ w10 b/\iD b=(r10 b).drop 2/\iX b=mdL (b.drop 16)):=by
 by_cases hk:zx_ w10 b=0
 ·obtain ⟨n1,n2⟩:=rowN hb hk
  rw [show z4_ w10=5 by decide] at n1
  rw [show zD_ w10=16 by decide] at n2
  have n1':(zA_ w10 b).length=5:=by omega
  have c1:ZW_ w10 b 0 263 269 0=0:=by unfold ZW_;rw [if_pos rfl];show (if zx_ w10 b=1 then (263:Int) else if zx_ w10 b=2 then 269 else 0)=0;rw [hk];rfl
  have c2:qy_ w10 b 0 0=16:=by unfold qy_;rw [if_pos rfl];show (if zx_ w10 b=1 then (0:Int) else if zx_ w10 b=2 then 0 else 0+zD_ w10)=16;rw [hk];decide
  have c3:i1L b=zA_ w10 b++[0,0,0,0,0]:=rfl
  have g2:(i1L b).getD 2 0=(zA_ w10 b).getD 2 0:=by rw [c3,qj_ (by omega)]
  have g1:(i1L b).getD 1 0=(zA_ w10 b).getD 1 0:=by rw [c3,qj_ (by omega)]
  have t5:(i1L b).take 5=zA_ w10 b:=by rw [c3,<- n1',List.take_left]
  unfold e10
  rw [if_neg (not_not_intro hk)]
  by_cases h2:2 < (zA_ w10 b).getD 2 0
  ·have e2:i2E b=269:=by unfold i2E;rw [g2,if_pos h2,c1];rfl
   have e3:i3E b=269:=by unfold i3E mtE;rw [e2];rfl
   have e4:i4E b=269:=by unfold i4E;rw [e3];exact HW_ (by decide)
   rw [if_pos h2]
   refine ⟨?_,fun h=>by cases h⟩
   unfold i5E;rw [e4];split<;>rfl
  ·have e2:i2E b=0:=by unfold i2E;rw [g2,if_neg h2,c1]
   have e3:i3E b=mdE (b.drop 16):=by unfold i3E mtE;rw [e2,if_pos rfl,c2];rfl
   have p3:i3P b=16+mdN (b.drop 16):=by unfold i3P mtP;rw [e2,if_pos rfl,c2];rfl
   have x3:iX b=mdL (b.drop 16):=by unfold iX mtL;rw [e2,if_pos rfl,c2];rfl
   rw [if_neg h2]
   by_cases h3:mdE (b.drop 16)=0
   ·have hN:=Hj_ (b.drop 16) fun x hx=>hb x (List.mem_of_mem_drop hx)
    rw [List.length_drop] at hN
    have d3:b.drop (i3P b).toNat=r10 b:=by rw [p3];unfold r10;congr 1;omega
    have hlen:((r10 b).length:Int)=b.length - (16+mdN (b.drop 16)):=by unfold r10;rw [List.length_drop];omega
    rw [if_neg (not_not_intro h3)]
    rw [h3] at e3
    by_cases h4:(r10 b).length < 2
    ·have e4:i4E b=263:=by
      unfold i4E ZW_;rw [e3,if_pos rfl,d3,zc3_,if_pos h4];rfl
     rw [if_pos h4]
     refine ⟨?_,fun h=>by cases h⟩
     unfold i5E;rw [e4];split<;>rfl
    ·rw [if_neg h4]
     by_cases h5:zF_ ((r10 b).take 2)=true
     ·have e4:i4E b=0:=by
       unfold i4E ZW_;rw [e3,if_pos rfl,d3,zc3_,if_neg h4,if_pos h5];rfl
      have p4:i4P b=i3P b+2:=by
       unfold i4P qy_;rw [e3,if_pos rfl,d3,zc3_,if_neg h4,if_pos h5];rfl
      have dD:iD b=(r10 b).drop 2:=by
       unfold iD;rw [if_pos e4,p4,<- d3,List.drop_drop];congr 1;omega
      have hl:((iD b).length:Int)=(r10 b).length - 2:=by rw [dD,List.length_drop];omega
      have z:¬ zF_ ((r10 b).take 2)=false:=by rw [h5];decide
      by_cases h6:(zA_ w10 b).getD 1 0 < ((r10 b).length:Int) - 2
      ·rw [if_pos (.inr h6)]
       refine ⟨?_,fun h=>by cases h⟩
       unfold i5E;rw [g1,hl,if_pos h6,e4];rfl
      ·rw [if_neg (fun h=>h.elim z h6)]
       refine ⟨?_,fun _=>⟨t5,dD,x3⟩⟩
       unfold i5E;rw [g1,hl,if_neg h6,e4]
     ·have e4:i4E b=269:=by
       unfold i4E ZW_;rw [e3,if_pos rfl,d3,zc3_,if_neg h4,if_neg h5];rfl
      rw [if_pos (.inl (by simpa using h5))]
      refine ⟨?_,fun h=>by cases h⟩
      unfold i5E;rw [e4];split<;>rfl
   ·rw [if_pos h3]
    have e4:i4E b=mdE (b.drop 16):=by unfold i4E;rw [e3];exact HW_ h3
    refine ⟨?_,fun h=>absurd h h3⟩
    unfold i5E;rw [e4,jU_ h3];split<;>rfl
 ·have c1:ZW_ w10 b 0 263 269 0=263:=by
   unfold ZW_;rw [if_pos rfl]
   show (if zx_ w10 b=1 then (263:Int) else if zx_ w10 b=2 then 269 else 0)=263
   have:=yJ_ w10 b
   have:=ziA_ b
   rw [if_pos (by omega)]
  have e2:i2E b=263:=by unfold i2E;rw [c1];split<;>rfl
  have e3:i3E b=263:=by unfold i3E mtE;rw [e2];rfl
  have e4:i4E b=263:=by unfold i4E;rw [e3];exact HW_ (by decide)
  unfold e10
  rw [if_pos hk]
  refine ⟨?_,fun h=>by cases h⟩
  unfold i5E;rw [e4];split<;>rfl
theorem zif_ {b:List Int} (hb:∀ x ∈ b,0<=x/\x<=255):o5E b=e13 b/\(e13 b=0->(o1L b).take 2=(zA_ w13 b).take 2/\uD b=b.drop (16+(m13 b).toNat)/\uA b=adL ((b.drop 16).take (m13 b).toNat)):=by
 have hK:=yJ_ w13 b
 have bad:∀ e:Int,e ≠ 0->ZW_ w13 b 0 263 269 0=e->o5E b=e:=fun e h c=>by
  have e2:o2E b=e:=by unfold o2E;rw [c,jU_ h];split<;>rfl
  have t:∀ n,Zw_ n b (qy_ w13 b 0 0) 263 e=e:=fun n=>by unfold Zw_;rw [jU_ h,jU_ h];split<;>(try split)<;>rfl
  have e3:o3E b=e:=by unfold o3E atE;rw [e2,t,if_neg h]
  unfold o5E;rw [e3,jU_ h];split<;>rfl
 rcases hK with hk | hk | hk
 ·obtain ⟨n1,n2⟩:=rowN hb hk
  rw [show z4_ w13=3 by decide] at n1
  rw [show zD_ w13=16 by decide] at n2
  have n1':(zA_ w13 b).length=3:=by omega
  have c1:ZW_ w13 b 0 263 269 0=0:=by unfold ZW_;rw [if_pos rfl];show (if zx_ w13 b=1 then (263:Int) else if zx_ w13 b=2 then 269 else 0)=0;rw [hk];rfl
  have c2:qy_ w13 b 0 0=16:=by unfold qy_;rw [if_pos rfl];show (if zx_ w13 b=1 then (0:Int) else if zx_ w13 b=2 then 0 else 0+zD_ w13)=16;rw [hk];decide
  have c3:o1L b=zA_ w13 b++[0,0,0]:=rfl
  have g2:(o1L b).getD 2 0=m13 b:=by rw [c3,qj_ (by omega)];rfl
  have g1:(o1L b).getD 1 0=(zA_ w13 b).getD 1 0:=by rw [c3,qj_ (by omega)]
  have g0:(o1L b).getD 0 0=(zA_ w13 b).getD 0 0:=by rw [c3,qj_ (by omega)]
  have t2:(o1L b).take 2=(zA_ w13 b).take 2:=by rw [c3,List.take_append_of_le_length (by omega)]
  have hm0:0<=m13 b:=(Hn_ hb).1
  unfold e13
  rw [if_neg (by omega),if_neg (by omega)]
  by_cases h1:(zA_ w13 b).getD 1 0=0
  ·have e2:o2E b=268:=by unfold o2E;rw [g1,if_pos h1,c1];rfl
   have t:∀ n,Zw_ n b (qy_ w13 b 0 0) 263 268=268:=fun n=>by unfold Zw_;split<;>(try split)<;>rfl
   have e3:o3E b=268:=by unfold o3E atE;rw [e2,t,if_neg (by decide)]
   rw [if_pos h1]
   refine ⟨?_,fun h=>by cases h⟩
   unfold o5E;rw [e3];split<;>rfl
  ·have e2:o2E b=0:=by unfold o2E;rw [g1,if_neg h1,c1]
   rw [if_neg h1]
   by_cases h2:(b.length:Int) < 16+m13 b
   ·have t:Zw_ (m13 b) b 16 263 0=263:=by unfold Zw_;rw [if_neg (by omega),if_pos (by omega)];rfl
    have e3:o3E b=263:=by unfold o3E atE;rw [e2,g2,c2,t,if_neg (by decide)]
    rw [if_pos h2]
    refine ⟨?_,fun h=>by cases h⟩
    unfold o5E;rw [e3];split<;>rfl
   ·have t:Zw_ (m13 b) b 16 263 0=0:=by unfold Zw_;rw [if_neg (by omega),if_neg (by omega)]
    have tl:Qb_ (m13 b) b 16 263 0=(b.drop 16).take (m13 b).toNat:=by
     unfold Qb_;rw [if_pos t,List.drop_take]
     congr 1;omega
    have tp:Qt_ (m13 b) b 16 263 0=16+m13 b:=by unfold Qt_;rw [if_pos t]
    have e3:o3E b=adE ((b.drop 16).take (m13 b).toNat):=by unfold o3E atE;rw [e2,g2,c2,t,if_pos rfl,tl]
    have a3:uA b=adL ((b.drop 16).take (m13 b).toNat):=by unfold uA atL;rw [e2,g2,c2,t,if_pos rfl,tl]
    have p3:o3P b=16+m13 b:=by unfold o3P;rw [e2,g2,c2,tp]
    rw [if_neg h2]
    by_cases h3:adE ((b.drop 16).take (m13 b).toNat)=0
    ·rw [if_neg (not_not_intro h3)]
     rw [h3] at e3
     have dD:uD b=b.drop (16+(m13 b).toNat):=by unfold uD;rw [if_pos e3,p3];congr 1;omega
     have hl:((uD b).length:Int)=b.length - (16+m13 b):=by rw [dD,List.length_drop];omega
     by_cases h4:¬ (zA_ w13 b).getD 0 0=4294967295/\16+m13 b < b.length
     ·rw [if_pos h4]
      refine ⟨?_,fun h=>by cases h⟩
      unfold o5E;rw [g0,hl,if_pos ⟨h4.1,by omega⟩,e3];rfl
     ·rw [if_neg h4]
      refine ⟨?_,fun _=>⟨t2,dD,a3⟩⟩
      unfold o5E;rw [g0,hl,if_neg fun h=>h4 ⟨h.1,by omega⟩,e3]
    ·rw [if_pos h3]
     refine ⟨?_,fun h=>absurd h h3⟩
     unfold o5E;rw [e3,jU_ h3];split<;>rfl
 ·have c1:ZW_ w13 b 0 263 269 0=263:=by
   unfold ZW_;rw [if_pos rfl]
   show (if zx_ w13 b=1 then (263:Int) else if zx_ w13 b=2 then 269 else 0)=263
   rw [if_pos hk]
  unfold e13;rw [if_pos hk]
  exact ⟨bad 263 (by decide) c1,fun h=>by cases h⟩
 ·have c1:ZW_ w13 b 0 263 269 0=269:=by
   unfold ZW_;rw [if_pos rfl]
   show (if zx_ w13 b=1 then (263:Int) else if zx_ w13 b=2 then 269 else 0)=269
   rw [if_neg (by omega),if_pos hk]
  unfold e13;rw [if_neg (by omega),if_pos hk]
  exact ⟨bad 269 (by decide) c1,fun h=>by cases h⟩
end Go.Eng
