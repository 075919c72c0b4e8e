/- Parts of the proof: M5, M6, M7, M8, X1, X2, M9, MA, P2, P3, P4, P5, P6. No condition. -/
import Derived.Test.YteihcoggfaenaaaGreatDoorProg
import Derived.Test.YteihcoggfaenaaaGreatDoorWF10
import Derived.KernelRfl
import Derived.Test.YteihcoggfaenaaaGreatDoorWF19
import Derived.Test.YteihcoggfaenaaaGreatDoorWF17
import Derived.Test.YteihcoggfaenaaaGreatDoorWF14
import Derived.Lib.BytesEntry
import Derived.Lib.Walk
import Derived.Laws.Externs
import Derived.Lib.Strings
import Derived.Lib.Slices
import Derived.Test.YteihcoggfaenaaaGreatDoorWF11
import Derived.Test.YteihcoggfaenaaaGreatDoorWF12
namespace Go.Eng
open Go.Proofs
set_option linter.unusedVariables false
set_option linter.unusedSimpArgs false
set_option maxRecDepth 100000
set_option maxHeartbeats 1000000
def boO (l:List OV):List Int:=l.flatMap ecO
def meN (l:List OV):Int:=4+((boO l).length:Int)
def meB (l:List OV):List Int:=ze_ 1 2++ze_ (meN l) 2++boO l++List.replicate (pz (meN l)).toNat 0
theorem Xd_ {o:OV} (h:rgO o=true):szO o=(ecO o).length/\exO o=ecO o/\eeO o=0/\(ecO o).length<=300:=by
 have h1:=k5_ h
 have h2:=YB_ h
 refine ⟨?_,?_,if_pos h,?_⟩
 ·unfold szO ecO;rw [h1.1,h2]
 ·unfold exO ecO;rw [if_pos h,h2]
 ·unfold ecO;rw [<- h2];exact h1.2
theorem BB_:∀ (l:List OV),l.all rgO=true->(l.map szO).sum=((boO l).length:Int)
 | [],_=>rfl
 | o :: r,h=>by
   rw [List.all_cons,Bool.and_eq_true] at h
   have ih:=BB_ r h.2
   unfold boO at ih ⊢
   rw [List.flatMap_cons,List.length_append,List.map_cons,List.sum_cons,ih,(Xd_ h.1).1];omega
theorem ky_ {l:List OV} (h:rgM l=true):l.all rgO=true/\(ckS [] l).2=0/\qk_ l=meN l/\meN l<=65528/\4<=meN l:=by
 unfold rgM at h
 simp only [Bool.and_eq_true,decide_eq_true_eq] at h
 obtain ⟨⟨h1,h2⟩,h3⟩:=h
 have h4:qk_ l=meN l:=by unfold qk_ meN;rw [BB_ l h1]
 exact ⟨h1,h2,h4,by omega,by unfold meN;omega⟩
theorem zd2_ {room:Int}:∀ (r:List OV) (l:List Int),r.all rgO=true->(l.length:Int)+(boO r).length<=room->puS room r l 0=(l++boO r,0)
 | [],l,_,_=>by unfold boO puS;simp
 | o :: r,l,h,hl=>by
   rw [List.all_cons,Bool.and_eq_true] at h
   obtain ⟨_,h2,h3,_⟩:=Xd_ h.1
   have e1:boO (o :: r)=ecO o++boO r:=List.flatMap_cons
   rw [e1,List.length_append] at hl
   obtain ⟨b1,b2⟩:=xM_ (x:=ecO o) (l:=l) (room:=room) (by omega)
   have f0:zy_ 0 0=0:=rfl
   unfold puS
   rw [h2,h3,f0,b1,b2,zd2_ r (l++ecO o) h.2 (by rw [List.length_append];omega),e1,List.append_assoc]
theorem zm1_ {x:List OV} {l:List Int} {room:Int} (h:rgM x=true) (hl:(l.length:Int)+meN x+pz (meN x)<=room):mpB x l room 0=l++meB x/\mpE x l room 0=0:=by
 obtain ⟨h1,h2,h3,h4,h5⟩:=ky_ h
 have hz:=y8_ (n:=meN x) (by omega)
 obtain ⟨r1,r2⟩:=h0_ (a:=1) (n:=meN x) (by omega) (by omega)
 have l2:=zj_ (n:=1) (w:=2) (by decide)
 have l3:=zj_ (n:=meN x) (w:=2) (by decide)
 have hb:((zR_ [2,2] [1,meN x]).length:Int)=4:=by rw [r1,List.length_append];omega
 have hbo:meN x=4+(boO x).length:=rfl
 obtain ⟨w1,w2⟩:=H9_ (l:=l) (room:=room) r2 (by omega)
 rw [r1] at w1
 have hS:mpS x l room 0=(l++(ze_ 1 2++ze_ (meN x) 2)++boO x,0):=by
  unfold mpS;rw [h3,w1,w2]
  exact zd2_ x _ h1 (by simp only [List.length_append];omega)
 obtain ⟨z1,z2⟩:=xM_ (x:=mpZ x) (l:=l++(ze_ 1 2++ze_ (meN x) 2)++boO x) (room:=room) (by unfold mpZ;rw [h3];simp only [List.length_append,List.length_replicate];omega)
 unfold mpB mpE
 rw [if_pos h,if_pos h,hS,z1,z2]
 refine ⟨?_,rfl⟩
 unfold meB mpZ;rw [h3];simp only [List.append_assoc]
theorem ziA_ {x:List OV} {l:List Int} {room e:Int} (h:rgM x=false):mpB x l room e=l/\mpE x l room e=zy_ e 10001:=by
 unfold mpB mpE;rw [h];exact ⟨rfl,rfl⟩
theorem Bv_ (l:List OV) (h:0<=meN l):((meB l).length:Int)=meN l+pz (meN l):=by
 have l2:=zj_ (n:=1) (w:=2) (by decide)
 have l3:=zj_ (n:=meN l) (w:=2) (by decide)
 have hz:=y8_ (n:=meN l) (by omega)
 have hbo:meN l=4+(boO l).length:=rfl
 unfold meB
 simp only [List.length_append,List.length_replicate];omega
def meL (l:List OV):List Int:=if rgM l=true then meB l else []
def meE (l:List OV):Int:=if rgM l=true then 0 else 10001
theorem Ub_ {o:OV} (h:rgO o=true):0<=o.2.1/\o.2.1<=127/\0<=o.1/\o.1<=65535/\o.2.2.2.2.1.length<=100/\o.2.2.2.2.2.1.length<=100:=by
 have hn:=Z8_ h
 refine ⟨hn.1,hn.2.1,?_,?_,?_,?_⟩<;>omega
def zmP_ (o:OV):Bool:=KH_ o.1 o.2.1 o.2.2.1 o.2.2.2.1 o.2.2.2.2.1 o.2.2.2.2.2.1
theorem zif_ {o:OV} (h:bysO o):zmP_ o=rgO o:=(Y6_ h.1 h.2.1 h.2.2).symm
theorem zc9_ {l:List OV} {i:Nat} {d:OV} (h:i < l.length):boO (l.take (i+1))=boO (l.take i)++ecO (l.getD i d):=by
 unfold boO
 rw [List.take_succ_eq_append_getElem h,List.flatMap_append,List.getD_eq_getElem?_getD,List.getElem?_eq_getElem h];simp
theorem zfr_ {l:List OV} (h:l.all rgO=true):(boO l).length<=300*l.length:=by
 induction l with
 | nil=>simp [boO]
 | cons o r ih=>
   rw [List.all_cons,Bool.and_eq_true] at h
   have e1:boO (o :: r)=ecO o++boO r:=List.flatMap_cons
   have:=ih h.2
   have h2:=(Xd_ h.1).2.2.2
   rw [e1,List.length_append,List.length_cons];omega
def BN_:IR:=
(sq (kr [0] [oD 2 (.mov cF)])
(sq (.reg [oD 3 (.mov (cI 4))])
(sq (sq (.reg [oD 4 (.mov (cI 0))])
(.block 0
(.loop
(sq (sq (kr [0,3,4] [oM 7 4,
oM 8 0,
oE 9 8,
oB 10 .lss 7 9])
(.cond 10
.skip
(.exit 0)))
(sq (.block 1
(sq (sq (kr [0,3,4] [oM 13 0,
oM 14 4,
oI 15 6 13 14,
oK 16 6 15,
oC 17 126 [16],
oD 18 (.un .not 17)])
(.cond 18
(sq (kr [] [oD 2 (.mov cF)])
.ret)
.skip))
(kr [0,3,4] [oM 19 3,
oM 20 0,
oM 21 4,
oI 22 6 20 21,
oK 23 6 22,
oC 24 127 [23],
oE 25 24,
oB 26 .add 19 25,
oM 3 26])))
(kr [0,3,4] [oM 11 4,
oB 12 .add 11 (cI 1),
oM 4 12]))))))
(sq (kr [0,3] [oM 28 0,
oC 29 104 [28],
oM 27 29,
oX 30 27 0,
oX 31 27 1,
oM 5 30,
oM 6 31])
(sq (kr [3,6] [oM 32 6,
oB 33 .eql 32 (cI 0),
oM 34 33,
oT 34 35 (.mov 3),
oT 34 36 (.bin .leq 35 (cI 65528)),
oP 37 34 36 cF,
oM 2 37])
.ret)))))
def bn_:List RD:=[.tmp 2 true none]
theorem b0_:zk_ Tryz.prog Tryz.f89 BN_ bn_=true:=by kernel_rfl
def xY_:List AV->List Obj->Option (Prop × AV)
 | [.imm (.cons (.int .i64) (.cons (.int .i64) (.cons .bool (.cons (.int .u64) (.cons (.sl (.int .u8)) (.cons (.sl (.int .u8)) .nil)))))) l],[]=>some ((okM l,.bool (rgM l)))
 | _,_=>none
theorem g5_:zd_ Tryz.prog 89 (RoF xY_).sum:=by
 refine zi_ Tryz.func89 b0_ (za_ (s:=RoF jO_) XJ_ (za_ (s:=RoF jP_) XK_ (za_ (s:=RoF x0_) g7_ (zc_ _)))) fun args objs p v e=>?_
 unfold xY_ at e
 split at e
 ·rename_i l
  cases e
  refine ⟨rfl,fun hw ho hp=>?_⟩
  change List OV at l
  have hby:=zik_ (l:=l) (hw (.imm Y1 l) (by simp))
  clear hw ho
  have hok:=hp
  have hn:=hok.n
  repeat'(intro t ht;first|(cases t<;>first|(cases ht;done)|(try simp only[zg_]at ht))|((first|refine zb_ ht ?_|refine ht ?_ ?_|refine ht.1 ?_ ?_|refine ht ?_)<;>clear ht))
  all_goals first
   | exact True.intro
   | (intro r h1 h2;clear h1;refine h2 ⟨[0,3,4],Nat,(fun i=>i<=l.length/\(l.take i).all rgO=true),fun i=>[.imm Y1 l,.int .i64 (meN (l.take i)),.int .i64 i],fun _=>[],fun i=>l.length - i,⟨0,⟨Nat.zero_le _,rfl⟩,rfl,rfl⟩,?_⟩;clear h2)
  rintro i ⟨hi,he⟩
  repeat'(intro t ht;first|(cases t<;>first|(cases ht;done)|(try simp only[zg_]at ht;try(exfalso;first|contradiction|omega)))|((first|refine zb_ ht ?_|refine ht ?_ ?_|refine ht.1 ?_ ?_|refine ht ?_)<;>clear ht))
  all_goals (try generalize (Ty.dflt Y1)=od at*)
  all_goals first
   | exact True.intro
   | ((try simp only [zm_,zn_,zl_] at*);omega)
   | (have ha:=ZK_ (by omega) he
      rw [List.take_of_length_le (show l.length<=i by omega)] at*
      refine ⟨congrArg AV.bool ?_,rfl⟩
      have h3:qk_ l=meN l:=by unfold qk_ meN;rw [BB_ l ha]
      unfold rgM;rw [ha,h3];simp_all;done)
   | (have hlt:i < l.length:=by omega
      have hb:=hby _ (zu_ hlt od)
      have hq:=zif_ hb
      have hlen:=hok.a.h _ (zu_ hlt od)
      first
       | exact hlen.2
       | (have hr:rgO (l.getD i od)=false:=hq.symm.trans ht
          have hm:rgM l=false:=by unfold rgM;rw [ZA_ hlt hr];rfl
          rw [hm];exact ⟨rfl,rfl⟩)
       | (have hr:rgO (l.getD i od)=true:=hq.symm.trans ht
          have hnu:=Ub_ hr
          first
           | exact hnu
           | (have h3:=zfr_ he
              rw [WU_ (show i<=l.length by omega)] at h3
              have h4:(Zx_ (l.getD i od).1 (l.getD i od).2.1 (l.getD i od).2.2.1 (l.getD i od).2.2.2.1 (l.getD i od).2.2.2.2.1 (l.getD i od).2.2.2.2.2.1).length<=300:=(Xd_ hr).2.2.2
              unfold meN
              simp only [Bu_,Bw_,Int.toNat_natCast];omega)
           | (refine ⟨i+1,⟨by omega,Zn_ (by omega) he hr⟩,by dsimp only;omega,?_,rfl⟩
              have h5:meN (l.take (i+1))=meN (l.take i)+((ecO (l.getD i od)).length:Int):=by unfold meN;rw [zc9_ (d:=od) hlt,List.length_append];omega
              dsimp only;rw [h5];rfl)))
 ·cases e
def BO_:IR:=
(sq (kr [0] [oD 2 (.nilrow (.int .u8))])
(sq (.reg [oD 3 (.nilrow (.int .u8))])
(sq (sq (.reg [oD 4 (.mov (cI 0))])
(.block 0
(.loop
(sq (sq (kr [0,3,4] [oM 7 4,
oM 8 0,
oE 9 8,
oB 10 .lss 7 9])
(.cond 10
.skip
(.exit 0)))
(sq (.block 1
(kr [0,3,4] [oM 13 3,
oM 14 0,
oM 15 4,
oI 16 6 14 15,
oK 17 6 16,
oC 18 127 [17],
oD 19 (.append (.int .u8) 1 13 18),
oM 3 19]))
(kr [0,3,4] [oM 11 4,
oB 12 .add 11 (cI 1),
oM 4 12]))))))
(sq (kr [3] [oM 20 3,
oE 21 20,
oB 22 .add (cI 4) 21,
oM 5 22])
(sq (kr [3,5] [oC 23 88 [(.c (.int .u64 1)),(cI 2)],
oM 24 5,
oD 25 (.conv .u64 24),
oC 26 88 [25,(cI 2)],
oD 27 (.append (.int .u8) 1 23 26),
oM 6 27])
(sq (kr [3,5,6] [oM 28 6,
oM 29 3,
oD 30 (.append (.int .u8) 1 28 29),
oM 31 5,
oC 32 102 [31],
oD 33 (.appendz (.int .u8) 1 (0:Int) 30 32),
oM 2 33])
.ret))))))
def bo_:List RD:=[.tmp 2 true (some (.int .u8))]
theorem b1_:zk_ Tryz.prog Tryz.f90 BO_ bo_=true:=by kernel_rfl
def xZ_:List AV->List Obj->Option (Prop × AV)
 | [.imm (.cons (.int .i64) (.cons (.int .i64) (.cons .bool (.cons (.int .u64) (.cons (.sl (.int .u8)) (.cons (.sl (.int .u8)) .nil)))))) l],[]=>some ((rgM l=true/\l.length<=100000,.imm (.int .u8) (meB l)))
 | _,_=>none
theorem g6_:zd_ Tryz.prog 90 (RoF xZ_).sum:=by
 refine zi_ Tryz.func90 b1_ (za_ (s:=RoF jP_) XK_ (za_ (s:=RwF Qf_) qL_ (za_ (s:=RoF xX_) g4_ (zc_ _)))) fun args objs p v e=>?_
 unfold xZ_ at e
 split at e
 ·rename_i l
  cases e
  refine ⟨rfl,fun hw ho hp=>?_⟩
  change List OV at l
  clear hw ho
  obtain ⟨hr,hn⟩:=hp
  obtain ⟨h1,h2,h3,h4,h5⟩:=ky_ hr
  have hz:=y8_ (n:=meN l) (by omega)
  repeat'(intro t ht;first|(cases t<;>first|(cases ht;done)|(try simp only[zg_]at ht))|((first|refine zb_ ht ?_|refine ht ?_ ?_|refine ht.1 ?_ ?_|refine ht ?_)<;>clear ht))
  all_goals first
   | exact True.intro
   | (intro r h1 h2;clear h1;refine h2 ⟨[0,3,4],Nat,(fun i=>i<=l.length),fun i=>[.imm Y1 l,.own 0,.int .i64 i],fun i=>[.row false (.int .u8) (boO (l.take i))],fun i=>l.length - i,⟨0,Nat.zero_le _,rfl,rfl⟩,?_⟩;clear h2)
  rintro i hi
  have hbi:=zfr_ (l:=l.take i) (List.all_eq_true.2 fun o ho=>List.all_eq_true.1 h1 o (List.mem_of_mem_take ho))
  have hti:(l.take i).length<=100000:=by rw [List.length_take];omega
  repeat'(intro t ht;first|(cases t<;>first|(cases ht;done)|(try simp only[zg_]at ht;try(exfalso;first|contradiction|omega)))|((first|refine zb_ ht ?_|refine ht ?_ ?_|refine ht.1 ?_ ?_|refine ht ?_)<;>clear ht))
  all_goals (try generalize (Ty.dflt Y1)=od at*)
  all_goals first
   | exact True.intro
   | ((try simp only [zm_,zn_,zl_] at*);omega)
   | (have hlt:i < l.length:=by omega
      have hro:=List.all_eq_true.1 h1 _ (zu_ hlt od)
      first
       | exact Ub_ hro
       | (have h6:(Zx_ (l.getD i od).1 (l.getD i od).2.1 (l.getD i od).2.2.1 (l.getD i od).2.2.2.1 (l.getD i od).2.2.2.2.1 (l.getD i od).2.2.2.2.2.1).length<=300:=(Xd_ hro).2.2.2
          simp only [zN_,Int.toNat_natCast];constructor<;>omega)
       | (refine ⟨i+1,by omega,by dsimp only;omega,rfl,?_⟩
          dsimp only
          rw [zc9_ (d:=od) hlt];rfl))
   | (have e:l.take i=l:=List.take_of_length_le (show l.length<=i by omega)
      refine ⟨?_,by first | rfl | exact True.intro⟩
      rw [e];unfold meB meN;simp only [zN_,List.append_assoc];done)
   | (have hge:l.length<=i:=by omega
      have e:l.take i=l:=List.take_of_length_le hge
      rw [e] at*
      have l2:=zj_ (n:=1) (w:=2) (by decide)
      have l3:=zj_ (n:=meN l) (w:=2) (by decide)
      have l4:=zj_ (n:=4+((boO l).length:Int)) (w:=2) (by decide)
      have hb:=zfr_ h1
      unfold meN at*
      first
       | ((try simp only [zm_,zn_,zl_] at*);omega)
       | exact ⟨by decide,by decide⟩
       | (simp only [zN_,List.length_append,List.length_nil];constructor<;>omega)
       | (simp only [zN_,List.length_append,List.length_nil];refine ⟨?_,?_,?_⟩<;>omega))
 ·cases e
def hl_:IR:=
(sq (kr [0] [oD 2 (.mov (.c (.imm (.int .u8) []))),
oD 3 (.mov (cI 0))])
(sq (sq (.reg [oM 4 0,
oC 5 89 [4],
oD 6 (.un .not 5)])
(.cond 6
(sq (.reg [oD 2 (.mov (.c (.imm (.int .u8) []))),
oD 3 (.mov (cI 10001))])
.ret)
.skip))
(sq (kr [0] [oM 7 0,
oC 8 90 [7],
oM 2 8,
oD 3 (.mov (cI 0))])
.ret)))
def Gl_:List RD:=[.tmp 2 true (some (.int .u8)),.tmp 3 true none]
theorem GP_:zk_ Tryz.prog Tryz.f37 hl_ Gl_=true:=by kernel_rfl
def wK_:List AV->List Obj->Option (Prop × AV)
 | [.imm (.cons (.int .i64) (.cons (.int .i64) (.cons .bool (.cons (.int .u64) (.cons (.sl (.int .u8)) (.cons (.sl (.int .u8)) .nil)))))) x],[]=>some ((okM x,.tup [.imm (.int .u8) (meL x),.int .i64 (meE x)]))
 | _,_=>none
theorem uS_:zd_ Tryz.prog 37 (RoF wK_).sum:=by
 refine zi_ Tryz.func37 GP_ (za_ (s:=RoF xY_) g5_ (za_ (s:=RoF xZ_) g6_ (zc_ _))) fun args objs p v e=>?_
 unfold wK_ at e
 split at e
 ·rename_i x
  cases e
  refine ⟨rfl,fun hw ho hp=>?_⟩
  change List OV at x
  clear hw ho
  have hok:=hp
  have hn:=hp.n
  repeat'(intro t ht;first|(cases t<;>first|(cases ht;done)|(try simp only[zg_]at ht))|((first|refine zb_ ht ?_|refine ht ?_ ?_|refine ht.1 ?_ ?_|refine ht ?_)<;>clear ht))
  all_goals first
   | exact True.intro
   | exact hok
   | exact ⟨by assumption,hn⟩
   | (unfold meL meE;rw [if_pos (by assumption),if_pos (by assumption)];exact ⟨rfl,rfl⟩)
   | (have hr:rgM x=false:=by assumption
      unfold meL meE;rw [hr];exact ⟨rfl,rfl⟩)
 ·cases e
def vO (y:List Int):OV:=(zE_ y,zT_ y,ZN_ y,QF_ y,qs_ y,qo_ y,())
def mlG (acc:List OV) (y:List Int):List OV × Int:=
 if y.length=0 then (acc,0) else if ¬ zO_ y=0 then ([],zO_ y) else if ¬ (ckS [] (acc++[vO y])).2=0 then ([],(ckS [] (acc++[vO y])).2) else mlG (acc++[vO y]) (y.drop (max 1 (Zy_ y).toNat))
termination_by y.length
decreasing_by all_goals (rw [List.length_drop];omega)
theorem Bs_ {acc:List OV} {y:List Int} (h:y.length=0):mlG acc y=(acc,0):=by rw [mlG,if_pos h]
theorem zf6_ {acc:List OV} {y:List Int} (h:¬ y.length=0) (h1:¬ zO_ y=0):mlG acc y=([],zO_ y):=by rw [mlG,if_neg h,if_pos h1]
theorem ziF_ {acc:List OV} {y:List Int} (h:¬ y.length=0) (h1:zO_ y=0) (h2:¬ (ckS [] (acc++[vO y])).2=0):mlG acc y=([],(ckS [] (acc++[vO y])).2):=by rw [mlG,if_neg h,if_neg (not_not_intro h1),if_pos h2]
theorem zan_ {y:List Int} (hb:∀ x ∈ y,0<=x/\x<=255) (h:zO_ y=0):4<=Zy_ y/\Zy_ y<=y.length:=by
 obtain ⟨h1,h2,h3,h4⟩:=zgp_ hb h
 have:=congrArg List.length h2
 rw [List.length_take] at this
 have hl:4<=(Zx_ (zE_ y) (zT_ y) (ZN_ y) (QF_ y) (qs_ y) (qo_ y)).length:=by
  have:=zj_ (n:=zE_ y) (w:=2) (by decide)
  unfold Zx_;simp only [List.length_append,List.length_cons];omega
 omega
theorem ziE_ {acc:List OV} {y:List Int} (hb:∀ x ∈ y,0<=x/\x<=255) (h:¬ y.length=0) (h1:zO_ y=0) (h2:(ckS [] (acc++[vO y])).2=0):mlG acc y=mlG (acc++[vO y]) (y.drop (Zy_ y).toNat):=by
 have hn:=zan_ hb h1
 rw [mlG,if_neg h,if_neg (not_not_intro h1),if_neg (not_not_intro h2),show max 1 (Zy_ y).toNat=(Zy_ y).toNat by omega]
theorem zlg_ {y:List Int} (h:zO_ y=0):((Zw_ y (zE_ y),Zw_ y (zT_ y),(if zO_ y=0 then ZN_ y else false),Zw_ y (QF_ y),qd_ y (qs_ y),qd_ y (qo_ y),()):OV)=vO y:=by
 unfold Zw_ qd_ vO;simp only [if_pos h]
def hu_:IR:=
(sq (kr [0] [oD 1 (.boxv 0),
oD 2 (.mov (.c (.undef)))])
(sq (.reg [oD 3 (.mkfn 180 [] [1]),
oM 2 3])
.ret))
def Gu_:List RD:=[.tmp 2 true none]
theorem GY_:zk_ Tryz.prog Tryz.f158 hu_ Gu_=true:=by kernel_rfl
def wP_:List AV->List Obj->Option (Prop × AV × List Obj)
 | [.imm (.int .u8) b],[]=>some ((True,.fn 180 [] [.ptr 0 0],[.box [.imm (.int .u8) b]]))
 | _,_=>none
theorem uX_:zd_ Tryz.prog 158 (RwF wP_).sum:=by
 refine qa_ Tryz.func158 GY_ (zc_ _) fun args objs p v o e=>?_
 unfold wP_ at e
 split at e
 ·rename_i b
  cases e
  refine ⟨rfl,fun hw ho hp=>?_⟩
  change List Int at b
  repeat'(intro t ht;first|(cases t<;>first|(cases ht;done)|(try simp only[zg_]at ht;try(exfalso;first|contradiction|omega)))|((first|refine zb_ ht ?_|refine ht ?_ ?_|refine ht.1 ?_ ?_|refine ht ?_)<;>clear ht))
  all_goals first
   | exact True.intro
   | exact ⟨rfl,rfl⟩
 ·cases e
def ht_:IR:=
(sq (kr [0] [oD 2 (.box [.nils]),
oD 3 (.box [.int .i64 0])])
(sq (sq (.reg [oM 8 0,
oC 9 158 [8]])
(.block 0
(.rng 9 [10,11] [2,3] 180
(sq (kr [2,3,10,11] [oD 4 (.box [.int .i64 0,.int .i64 0,.kb false,.int .u64 0,.nils,.nils]),
oS 6 4 10])
(.reg [oM 5 11]))
(.block 1
(sq (sq (kr [2,3,4,5] [oM 12 5,
oB 13 .neq 12 (cI 0)])
(.cond 13
(sq (.reg [oM 14 5,
oN (.store 1 2 (.c (.nils))),
oS 1 3 14])
.ret)
.skip))
(sq (.reg [oL 15 2,
oK 16 6 4,
oD 17 (.sliceAll Y1 1 [(0,6,16)]),
oD 18 (.append Y1 80 15 17),
oS 1 2 18])
(sq (kr [2,3] [oL 20 2,
oC 21 119 [20],
oM 19 21,
oX 22 19 0,
oX 23 19 1,
oM 6 22,
oM 7 23])
(sq (kr [2,3,7] [oM 24 7,
oB 25 .neq 24 (cI 0)])
(.cond 25
(sq (.reg [oM 26 7,
oN (.store 1 2 (.c (.nils))),
oS 1 3 26])
.ret)
.skip))))))
(.block 0
(.loop
(sq (sq (kr [0,1] [oL 6 1,
oE 7 6,
oB 8 .gtr 7 (cI 0)])
(.cond 8
.skip
(.exit 0)))
(.block 1
(sq (kr [0,1] [oL 10 1,
oC 11 181 [10],
oM 9 11,
oX 12 9 0,
oX 13 9 1,
oX 14 9 2,
oD 3 (.box [.int .i64 0,.int .i64 0,.kb false,.int .u64 0,.imm (.int .u8) [],.imm (.int .u8) []]),
oS 6 3 12,
oM 4 13,
oM 5 14])
(sq (sq (.keep [0,1,3,4,5]
(.yld [oM 15 0,
oK 16 6 3,
oM 17 5] (some 18) (.t 15) [(.t 16),(.t 17)] [0,1,4,5] [oD 19 (.un .not 18),
oM 20 19,
oF 20 21 (.mov 5),
oF 20 22 (.bin .neq 21 (cI 0)),
oP 23 20 cT 22]))
(.cond 23
.ret
.skip))
(kr [0,1,4] [oL 24 1,
oM 25 4,
oD 26 (.slice 1 24 (some 25) none none),
oS 1 1 26]))))))))))
(sq (kr [2,3] [oL 27 2,
oS 1 2 27,
oN (.store 1 3 (cI 0))])
.ret)))
def Gt_:List RD:=[.cell 2 none true [(some Y1)],.cell 3 none true []]
theorem GX_:zk_ Tryz.prog Tryz.f132 ht_ Gt_=true:=by kernel_rfl
def wO_:List AV->List Obj->Option (Prop × AV)
 | [.imm (.int .u8) b],[]=>some ((b.length<=100000000,.tup [.imm Y1 (mlG [] b).1,.int .i64 (mlG [] b).2]))
 | _,_=>none
theorem uW_:zd_ Tryz.prog 132 (RoF wO_).sum:=by
 refine zi_ Tryz.func132 GX_ (za_ (s:=RoF KP_) WZ_ (za_ (s:=RwF wP_) uX_ (za_ (s:=RoF KR_) W1_ (zc_ _)))) fun args objs p v e=>?_
 unfold wO_ at e
 split at e
 ·rename_i b
  cases e
  refine ⟨rfl,fun hw ho hp=>?_⟩
  change List Int at b
  have hb:∀ x ∈ (b:List Int),(0:Int)<=x/\x<=255:=fun x hx=>(hw (.imm (.int .u8) b) (by simp)).1 x hx
  clear hw ho
  repeat'(intro t ht;first|(cases t<;>first|(cases ht;done)|(try simp only[zg_]at ht;try(exfalso;first|contradiction|omega)))|((first|refine zb_ ht ?_|refine ht ?_ ?_|refine ht.1 ?_ ?_|refine ht ?_)<;>clear ht))
  all_goals first
   | exact True.intro
   | (refine .inl fun lr ln=>?_)
  repeat'(intro t ht;first|(cases t<;>first|(cases ht;done)|(try simp only[zg_]at ht;try(exfalso;first|contradiction|omega)))|((first|refine zb_ ht ?_|refine ht ?_ ?_|refine ht.1 ?_ ?_|refine ht ?_)<;>clear ht))
  all_goals first
   | exact True.intro
   | (intro r h1 h2;clear h1;refine h2 ⟨[0,1],Option (List OV × List Int),(fun a=>match a with | none=>True | some a=>a.1.length+a.2.length<=b.length/\(∀ x ∈ a.2,0<=x/\x<=255)/\mlG [] b=mlG a.1 a.2),(fun a=>[.yv ln,.ptr 0 0]),(fun a=>match a with | none=>[.box [.imm (.int .u8) b],.box [.nils],.box [.int .i64 0],.lrec lr 0] | some a=>[.box [.imm (.int .u8) a.2],.box [.own 4],.box [.int .i64 0],.lrec lr 0,.row false Y1 a.1]),(fun a=>match a with | none=>b.length+1 | some a=>a.2.length),⟨none,True.intro,rfl,rfl⟩,?_⟩;clear h2)
  rintro (_ | ⟨acc,y⟩) hJ
  ·clear hJ
   repeat'(intro t ht;first|(cases t<;>first|(cases ht;done)|(try simp only[zg_]at ht;try(exfalso;first|contradiction|omega)))|((first|refine zb_ ht ?_|refine ht ?_ ?_|refine ht.1 ?_ ?_|refine ht ?_)<;>clear ht))
   all_goals (try dsimp only at*)
   all_goals first
    | exact True.intro
    | ((try simp only [zm_,zn_,zl_] at*);omega)
    | exact ⟨rfl,rfl⟩
    | (rw [Bs_ (by omega)];exact ⟨rfl,rfl⟩)
    | (simp only [zN_,List.length_cons,List.length_nil];constructor<;>omega)
    | (have h0:zO_ b=0:=by assumption
       have hg:=zan_ hb h0
       have e1:Zw_ b (Zy_ b)=Zy_ b:=if_pos h0
       have hv:=zlg_ h0
       first
        | (rw [e1];constructor<;>omega)
        | (have hc:¬ (ckS [] ([]++[(Zw_ b (zE_ b),Zw_ b (zT_ b),if zO_ b=0 then ZN_ b else false,Zw_ b (QF_ b),qd_ b (qs_ b),qd_ b (qo_ b),())])).2=0:=by assumption
           rw [hv] at hc
           have hm:=ziF_ (acc:=[]) (by omega) h0 hc
           rw [hm,<- hv];exact ⟨rfl,rfl⟩)
        | (have hc:(ckS [] ([]++[(Zw_ b (zE_ b),Zw_ b (zT_ b),if zO_ b=0 then ZN_ b else false,Zw_ b (QF_ b),qd_ b (qs_ b),qd_ b (qo_ b),())])).2=0:=by assumption
           rw [hv] at hc
           have hm:=ziE_ (acc:=[]) hb (by omega) h0 hc
           refine ⟨some ([]++[vO b],b.drop (Zy_ b).toNat),⟨?_,fun x hx=>hb x (List.mem_of_mem_drop hx),hm⟩,?_,rfl,?_⟩
           ·simp only [List.length_append,List.length_cons,List.length_nil,List.length_drop];omega
           ·dsimp only;rw [List.length_drop];omega
           ·dsimp only;rw [e1,<- hv];rfl))
    | (have h0:¬ zO_ b=0:=by assumption
       rw [zf6_ (by omega) h0];exact ⟨rfl,rfl⟩)
  ·obtain ⟨j1,j2,j3⟩:=hJ
   dsimp only at j1 j2 j3
   repeat'(intro t ht;first|(cases t<;>first|(cases ht;done)|(try simp only[zg_]at ht;try(exfalso;first|contradiction|omega)))|((first|refine zb_ ht ?_|refine ht ?_ ?_|refine ht.1 ?_ ?_|refine ht ?_)<;>clear ht))
   all_goals (try dsimp only at*)
   all_goals first
    | exact True.intro
    | ((try simp only [zm_,zn_,zl_] at*);omega)
    | exact ⟨rfl,rfl⟩
    | (rw [j3,Bs_ (by omega)];exact ⟨rfl,rfl⟩)
    | (simp only [zN_,List.length_cons,List.length_nil];constructor<;>omega)
    | (have h0:zO_ y=0:=by assumption
       have hg:=zan_ j2 h0
       have e1:Zw_ y (Zy_ y)=Zy_ y:=if_pos h0
       have hv:=zlg_ h0
       first
        | (rw [e1];constructor<;>omega)
        | (have hc:¬ (ckS [] (acc++[(Zw_ y (zE_ y),Zw_ y (zT_ y),if zO_ y=0 then ZN_ y else false,Zw_ y (QF_ y),qd_ y (qs_ y),qd_ y (qo_ y),())])).2=0:=by assumption
           rw [hv] at hc
           have hm:=ziF_ (acc:=acc) (by omega) h0 hc
           rw [j3,hm,<- hv];exact ⟨rfl,rfl⟩)
        | (have hc:(ckS [] (acc++[(Zw_ y (zE_ y),Zw_ y (zT_ y),if zO_ y=0 then ZN_ y else false,Zw_ y (QF_ y),qd_ y (qs_ y),qd_ y (qo_ y),())])).2=0:=by assumption
           rw [hv] at hc
           have hm:=ziE_ (acc:=acc) j2 (by omega) h0 hc
           refine ⟨some (acc++[vO y],y.drop (Zy_ y).toNat),⟨?_,fun x hx=>j2 x (List.mem_of_mem_drop hx),j3.trans hm⟩,?_,rfl,?_⟩
           ·simp only [List.length_append,List.length_cons,List.length_nil,List.length_drop];omega
           ·dsimp only;rw [List.length_drop];omega
           ·dsimp only;rw [e1,<- hv];rfl))
    | (have h0:¬ zO_ y=0:=by assumption
       rw [j3,zf6_ (by omega) h0];exact ⟨rfl,rfl⟩)
 ·cases e
def WJ_:IR:=
(sq (kr [0] [oD 2 (.mov (.c (.imm (.int .u8) [])))])
(sq (sq (.reg [oM 3 0,
oC 4 43 [3],
oB 5 .neq 4 (cI 0)])
(.cond 5
(sq (.reg [oD 2 (.mov (.c (.imm (.int .u8) [])))])
.ret)
.skip))
(sq (kd [0] [(oM 6 0,[]),
(oD 7 (.nilck 6),[]),
(oA 8 0 7,[]),
(oL 9 8,[]),
(oM 10 0,[0,0,0,0]),
(oD 11 (.nilck 10),[1,0,0,0]),
(oA 12 1 11,[2,0,0,0]),
(oL 13 12,[3,0,0,0]),
(oD 14 (.slice 1 9 (some 13) none none),[]),
(oC 15 67 [14],[]),
(oM 2 15,[])])
.ret)))
def We_:List RD:=[.tmp 2 true (some (.int .u8))]
theorem Wu_:zk_ Tryz.prog Tryz.f96 WJ_ We_=true:=by kernel_rfl
def q2_:List AV->List Obj->Option (Prop × AV)
 | [.ptr 0 0],[.box [.imm (.int .u8) b,.int .i64 p,.int .i64 sh,.int .i64 od,.int .i64 e,.bool true]]=>some ((0<=p/\p<=b.length/\b.length<=140737488355328,.imm (.int .u8) (if e=0 then b.drop p.toNat else [])))
 | _,_=>none
theorem J2_:zd_ Tryz.prog 96 (RoF q2_).sum:=by
 refine zi_ Tryz.func96 Wu_ (za_ (s:=RoF zq_) zr_ (za_ (s:=RoF qz_) QA_ (zc_ _))) fun args objs p v e=>?_
 unfold q2_ at e
 split at e
 ·rename_i b p sh od e
  cases e
  refine ⟨rfl,fun hw ho hp=>?_⟩
  change List Int at b
  clear hw ho
  obtain ⟨h1,h2,h3⟩:=hp
  repeat'(intro t ht;first|(cases t<;>first|(cases ht;done)|(try simp only[zg_]at ht;try(exfalso;first|contradiction|omega)))|((first|refine zb_ ht ?_|refine ht ?_ ?_|refine ht.1 ?_ ?_|refine ht ?_)<;>clear ht))
  all_goals first
   | exact True.intro
   | (rw [List.length_drop];omega)
   | ((try simp only [zm_,zn_,zl_] at*);omega)
   | omega
   | (rw [if_pos (by assumption)];exact ⟨rfl,rfl⟩)
   | (rw [if_neg (by assumption)];exact ⟨rfl,rfl⟩)
 ·cases e
theorem get2 (b:List Int):ZX_ [2] b=if b.length < 2 then ([],1) else ([Zz_ (b.take 2)],0):=by
 have hr:z3_ [2]=true:=by decide
 unfold ZX_
 rw [if_pos hr]
 have a2:zt_ 2=2:=by decide
 have t2:Int.toNat 2=2:=rfl
 have p2:(0:Int) < 2:=by decide
 simp only [ZG_,a2,t2,if_pos p2]
 by_cases h:b.length < 2
 ·rw [if_pos h,if_pos (by omega)]
 ·rw [if_neg h,if_neg (by omega)];rfl
theorem Bp_ {b:List Int} {p sh od:Int} (hp:0<=p) (h:p+2<=b.length):Yj_ 2 b p 0=Zz_ ((b.drop p.toNat).take 2)/\xp_ 2 b p 0=p+2/\XF_ 2 b p sh od 0=0:=by
 have e:ZX_ [2] (b.drop p.toNat)=([Zz_ ((b.drop p.toNat).take 2)],0):=by
  rw [get2,if_neg (by rw [List.length_drop];omega)]
 have es:zP_ [2]=2:=by decide
 unfold Yj_ xp_ XF_ kk_ kC_ Ki_ Zq_ z7_
 rw [e,es];exact ⟨rfl,rfl,rfl⟩
theorem zf0_ {b:List Int} {p sh od:Int} (hp:0<=p/\p<=b.length) (h:¬ p+2<=b.length):Yj_ 2 b p 0=0/\xp_ 2 b p 0=p/\XF_ 2 b p sh od 0=sh:=by
 have e:ZX_ [2] (b.drop p.toNat)=([],1):=by
  rw [get2,if_pos (by rw [List.length_drop];omega)]
 unfold Yj_ xp_ XF_ kk_ kC_ Ki_ Zq_ z7_
 rw [e];exact ⟨rfl,rfl,rfl⟩
theorem zkp_ {b:List Int} {p sh od e:Int} (he:e ≠ 0):Yj_ 2 b p e=0/\xp_ 2 b p e=p/\XF_ 2 b p sh od e=e:=by
 unfold Yj_ xp_ XF_ kk_ kC_ Ki_
 rw [if_neg he,if_neg he,if_neg he];exact ⟨rfl,rfl,rfl⟩
theorem zh0_ {b:List Int} {sh od:Int} (hs:sh ≠ 0):
 (¬ b.length < 4->Yj_ 2 b 0 0=tT b/\xp_ 2 b 0 0=2/\XF_ 2 b 0 sh od 0=0/\Yj_ 2 b 2 0=tN b/\xp_ 2 b 2 0=4/\XF_ 2 b 2 sh od 0=0)/\
 (b.length < 4->Yj_ 2 b (xp_ 2 b 0 0) (XF_ 2 b 0 sh od 0)=0/\XF_ 2 b (xp_ 2 b 0 0) sh od (XF_ 2 b 0 sh od 0)=sh/\0<=xp_ 2 b 0 0/\xp_ 2 b 0 0<=b.length):=by
 constructor
 ·intro h
  obtain ⟨a1,a2,a3⟩:=Bp_ (b:=b) (p:=0) (sh:=sh) (od:=od) (by decide) (by omega)
  obtain ⟨b1,b2,b3⟩:=Bp_ (b:=b) (p:=2) (sh:=sh) (od:=od) (by decide) (by omega)
  exact ⟨a1,a2,a3,b1,b2,b3⟩
 ·intro h
  by_cases h2:b.length < 2
  ·obtain ⟨a1,a2,a3⟩:=zf0_ (b:=b) (p:=0) (sh:=sh) (od:=od) ⟨by decide,by omega⟩ (by omega)
   rw [a2,a3]
   obtain ⟨b1,b2,b3⟩:=zkp_ (b:=b) (p:=0) (sh:=sh) (od:=od) hs
   exact ⟨b1,b3,by decide,by omega⟩
  ·obtain ⟨a1,a2,a3⟩:=Bp_ (b:=b) (p:=0) (sh:=sh) (od:=od) (by decide) (by omega)
   rw [a2,a3]
   obtain ⟨b1,b2,b3⟩:=zf0_ (b:=b) (p:=0+2) (sh:=sh) (od:=od) ⟨by decide,by omega⟩ (by omega)
   exact ⟨b1,b3,by decide,by omega⟩
theorem zku_ {k p sh:Int} {b:List Int} (hk:1<=k/\k<=7) (hp:0<=p) (h:p+k<=b.length):kC_ [0 - k] b p 0=(if Zo_ ((b.drop p.toNat).take k.toNat)=true then p+k else p)/\Ki_ [0 - k] b p sh sh 0=(if Zo_ ((b.drop p.toNat).take k.toNat)=true then 0 else sh):=by
 have hr:z3_ [0 - k]=true:=by
  rw [Zk_];refine ⟨by simp,fun n hn=>?_⟩
  simp only [List.mem_cons,List.not_mem_nil,or_false] at hn
  subst hn;omega
 have ha:zt_ (0 - k)=k:=by unfold zt_;split<;>omega
 have hl:(b.drop p.toNat).length=b.length - p.toNat:=List.length_drop
 have e:ZX_ [0 - k] (b.drop p.toNat)=([],if Zo_ ((b.drop p.toNat).take k.toNat)=true then 0 else 2):=by
  unfold ZX_;rw [if_pos hr]
  simp only [ZG_,ha]
  rw [if_neg (by omega),if_neg (by omega)]
  split<;>rfl
 have es:zP_ [0 - k]=k:=by
  unfold zP_;rw [if_pos hr];simp only [List.map_cons,List.map_nil,List.sum_cons,List.sum_nil,ha];omega
 unfold kC_ Ki_ z7_
 rw [e,es]
 cases hz:Zo_ ((b.drop p.toNat).take k.toNat) with
 | true=>exact ⟨rfl,rfl⟩
 | false=>exact ⟨rfl,rfl⟩
def mdZ (b:List Int):Bool:=Zo_ ((b.drop (tN b).toNat).take (pz (tN b)).toNat)
def mdE (b:List Int):Int:=if b.length < 4 then 1026 else if ¬ tT b=1 then 1025 else if tN b < 4\/65528 < tN b\/b.length < tN b+pz (tN b) then 1026 else if ¬ (mlG [] (bd b)).2=0 then (mlG [] (bd b)).2 else if mdZ b=true then 0 else 1026
def mdL (b:List Int):List OV:=if mdE b=0 then (mlG [] (bd b)).1 else []
def mdN (b:List Int):Int:=if mdE b=0 then tN b+pz (tN b) else 0
theorem vp_ {b:List Int} {e:Int} (h:mdE b=e) (h0:¬ e=0):mdL b=[]/\mdN b=0:=by
 unfold mdL mdN;rw [h,if_neg h0,if_neg h0];exact ⟨rfl,rfl⟩
def uj_:IR:=
(sq (kr [0] [oD 2 (.mov (.c (.imm Y1 []))),
oD 3 (.mov (cI 0)),
oD 4 (.mov (cI 0))])
(sq (.reg [oM 12 0,
oC 13 41 [12,(cI 1026),(cI 1026)],
oM 5 13])
(sq (kr [0,5] [oM 14 5,
oC 15 131 [14,(cI 2)],
oM 16 5,
oC 17 131 [16,(cI 2)],
oD 18 (.conv .i64 17),
oM 6 15,
oM 7 18])
(sq (.block 0
(sq (kr [0,5,6,7] [oM 20 5,
oC 21 43 [20],
oB 22 .neq 21 (cI 0),
oM 19 22])
(.cond 19
(sq (kr [5] [oM 23 5,
oC 24 43 [23],
oD 2 (.mov (.c (.imm Y1 []))),
oD 3 (.mov (cI 0)),
oM 4 24])
.ret)
(sq (.reg [oM 26 6,
oB 27 .neq 26 (.c (.int .u64 1)),
oM 25 27])
(.cond 25
(sq (kr [] [oD 2 (.mov (.c (.imm Y1 []))),
oD 3 (.mov (cI 0)),
oD 4 (.mov (cI 1025))])
.ret)
(sq (kr [0,5,7] [oM 29 7,
oB 30 .lss 29 (cI 4),
oM 31 30,
oF 31 32 (.mov 7),
oF 31 33 (.bin .gtr 32 (cI 65528)),
oP 34 31 cT 33,
oM 35 34,
oF 35 36 (.mov 7),
oF 35 37 (.mov 7),
oF 35 38 (.call false (.f 72) [37]),
oF 35 39 (.bin .add 36 38),
oF 35 40 (.mov 0),
oF 35 41 (.len 40),
oF 35 42 (.bin .gtr 39 41),
oP 43 35 cT 42,
oM 28 43])
(.cond 28
(sq (kr [] [oD 2 (.mov (.c (.imm Y1 []))),
oD 3 (.mov (cI 0)),
oD 4 (.mov (cI 1026))])
.ret)
.skip)))))))
(sq (kr [5,7] [oM 45 5,
oM 46 7,
oB 47 .sub 46 (cI 4),
oC 48 98 [45,47],
oC 49 132 [48],
oM 44 49,
oX 50 44 0,
oX 51 44 1,
oM 8 50,
oM 9 51])
(sq (sq (kr [5,7,8,9] [oM 52 9,
oB 53 .neq 52 (cI 0)])
(.cond 53
(sq (.reg [oM 54 9,
oD 2 (.mov (.c (.imm Y1 []))),
oD 3 (.mov (cI 0)),
oM 4 54])
.ret)
.skip))
(sq (sq (kr [5,7,8] [oM 55 7,
oC 56 72 [55],
oM 10 56])
(sq (.reg [oM 57 10,
oB 58 .gtr 57 (cI 0)])
(.cond 58
(kr [5,8,10] [oM 59 5,
oM 60 10,
oD 61 (.un .neg 60),
oD 62 (.sliceAll (.int .i64) 1 [(0,1,61)]),
oC 63 42 [59,62]])
.skip)))
(sq (sq (.reg [oM 64 5,
oC 65 43 [64],
oM 11 65])
(sq (kr [5,8,11] [oM 66 11,
oB 67 .neq 66 (cI 0)])
(.cond 67
(sq (.reg [oM 68 11,
oD 2 (.mov (.c (.imm Y1 []))),
oD 3 (.mov (cI 0)),
oM 4 68])
.ret)
.skip)))
(sq (kr [5,8] [oM 69 8,
oM 70 5,
oC 71 133 [70],
oM 2 69,
oM 3 71,
oD 4 (.mov (cI 0))])
.ret)))))))))
def VV_:List RD:=[.tmp 2 true (some Y1),.tmp 3 true none,.tmp 4 true none]
theorem V6_:zk_ Tryz.prog Tryz.f97 uj_ VV_=true:=by kernel_rfl
def jq_:List AV->List Obj->Option (Prop × AV)
 | [.imm (.int .u8) b],[]=>some ((b.length<=100000000,.tup [.imm Y1 (mdL b),.int .i64 (mdN b),.int .i64 (mdE b)]))
 | _,_=>none
theorem YY_:zd_ Tryz.prog 97 (RoF jq_).sum:=by
 refine zi_ Tryz.func97 V6_ (za_ (s:=RwF Z5_) qf_ (za_ (s:=RwF qe_) km_ (za_ (s:=RoF zq_) zr_ (za_ (s:=RoF kY_) wY_ (za_ (s:=RwF zL_) zV_ (za_ (s:=RoF wO_) uW_ (za_ (s:=RwF z8_) Zt_ (za_ (s:=RoF ZU_) qM_ (zc_ _))))))))) fun args objs p v e=>?_
 unfold jq_ at e
 split at e
 ·rename_i b
  cases e
  refine ⟨rfl,fun hw ho hp=>?_⟩
  change List Int at b
  have hb:∀ x ∈ (b:List Int),(0:Int)<=x/\x<=255:=fun x hx=>(hw (.imm (.int .u8) b) (by simp)).1 x hx
  clear hw ho
  have hn2:0<=tN b/\tN b<=65535:=Ym_ (a:=2) hb
  have hz:=y8_ hn2.1
  obtain ⟨T1,T2⟩:=zh0_ (b:=b) (sh:=1026) (od:=1026) (by decide)
  by_cases h4:b.length < 4
  ·obtain ⟨n1,n2,n3,n4⟩:=T2 h4
   have hE:mdE b=1026:=if_pos h4
   obtain ⟨m1,m2⟩:=vp_ hE (by decide)
   rw [m1,m2,hE]
   repeat'(intro t ht;first|(cases t<;>first|(cases ht;done)|(try simp only[zg_]at ht))|((first|refine zb_ ht ?_|refine ht ?_ ?_|refine ht.1 ?_ ?_|refine ht ?_)<;>clear ht))
   all_goals (try simp only [n1,n2,Bu_,Bw_] at*)
   all_goals first
    | exact True.intro
    | exact ⟨n3,n4,by omega⟩
    | omega
    | exact ⟨by decide,by omega,by omega⟩
    | exact ⟨rfl,by first | rfl | exact True.intro⟩
    | exact ⟨True.intro,True.intro⟩
    | (exfalso;simp_all;done)
  ·obtain ⟨n1,n2,n3,n4,n5,n6⟩:=T1 h4
   by_cases ht:tT b=1
   ·by_cases hr:tN b < 4\/65528 < tN b\/b.length < tN b+pz (tN b)
    ·have hE:mdE b=1026:=by unfold mdE;rw [if_neg h4,if_neg (not_not_intro ht),if_pos hr]
     obtain ⟨m1,m2⟩:=vp_ hE (by decide)
     rw [m1,m2,hE]
     repeat'(intro t ht;first|(cases t<;>first|(cases ht;done)|(try simp only[zg_]at ht))|((first|refine zb_ ht ?_|refine ht ?_ ?_|refine ht.1 ?_ ?_|refine ht ?_)<;>clear ht))
     all_goals (try simp only [n1,n2,n3,n4,n5,n6,ht] at*)
     all_goals first
      | exact True.intro
      | contradiction
      | omega
      | ((try simp only [zm_,zn_,zl_] at*);omega)
      | exact ⟨by decide,by omega,by omega⟩
      | exact ⟨rfl,by first | rfl | exact True.intro⟩
      | exact ⟨True.intro,True.intro⟩
      | (exfalso;omega)
    ·have hE0:mdE b=if ¬ (mlG [] (bd b)).2=0 then (mlG [] (bd b)).2 else if mdZ b=true then 0 else 1026:=by unfold mdE;rw [if_neg h4,if_neg (not_not_intro ht),if_neg hr]
     obtain ⟨k1,k2,k3⟩:=JU_ (n:=tN b - 4) (p:=4) (sh:=1026) (b:=b) (by omega) (by omega)
     have k4:(b.take (4+(tN b - 4)).toNat).drop (4:Int).toNat=bd b:=by unfold bd;rw [show 4+(tN b - 4)=tN b by omega];rfl
     rw [k4] at k1
     have k5:(4:Int)+(tN b - 4)=tN b:=by omega
     rw [k5] at k2
     have hbl:=zgB_ hb
     by_cases hg:(mlG [] (bd b)).2=0
     ·rw [if_neg (not_not_intro hg)] at hE0
      by_cases hk:0 < pz (tN b)
      ·obtain ⟨r1,r2⟩:=zku_ (sh:=1026) (b:=b) (p:=tN b) (k:=pz (tN b)) (by omega) (by omega) (by omega)
       have hZ:Zo_ ((b.drop (tN b).toNat).take (pz (tN b)).toNat)=mdZ b:=rfl
       rw [hZ] at r1 r2
       cases hz0:mdZ b with
       | true=>
         rw [hz0] at hE0 r1 r2
         rw [if_pos rfl] at r1 r2 hE0
         have m1:mdL b=(mlG [] (bd b)).1:=if_pos hE0
         have m2:mdN b=tN b+pz (tN b):=if_pos hE0
         rw [m1,m2,hE0]
         repeat'(intro t ht;first|(cases t<;>first|(cases ht;done)|(try simp only[zg_]at ht))|((first|refine zb_ ht ?_|refine ht ?_ ?_|refine ht.1 ?_ ?_|refine ht ?_)<;>clear ht))
         all_goals (try simp only [n1,n2,n3,n4,n5,n6,ht,k1,k2,k3,hg,r1,r2] at*)
         all_goals first
          | exact True.intro
          | contradiction
          | omega
          | ((try simp only [zm_,zn_,zl_] at*);omega)
          | exact ⟨by omega,by omega,by omega,by decide⟩
          | exact ⟨by omega,by omega,by omega⟩
          | exact ⟨rfl,by first | rfl | exact True.intro⟩
          | exact ⟨True.intro,True.intro⟩
          | (exfalso;omega)
       | false=>
         rw [hz0] at hE0 r1 r2
         rw [if_neg (by decide)] at r1 r2 hE0
         obtain ⟨m1,m2⟩:=vp_ hE0 (by decide)
         rw [m1,m2,hE0]
         repeat'(intro t ht;first|(cases t<;>first|(cases ht;done)|(try simp only[zg_]at ht))|((first|refine zb_ ht ?_|refine ht ?_ ?_|refine ht.1 ?_ ?_|refine ht ?_)<;>clear ht))
         all_goals (try simp only [n1,n2,n3,n4,n5,n6,ht,k1,k2,k3,hg,r1,r2] at*)
         all_goals first
          | exact True.intro
          | contradiction
          | omega
          | ((try simp only [zm_,zn_,zl_] at*);omega)
          | exact ⟨by omega,by omega,by omega,by decide⟩
          | exact ⟨by omega,by omega,by omega⟩
          | exact ⟨rfl,by first | rfl | exact True.intro⟩
          | exact ⟨True.intro,True.intro⟩
          | (exfalso;omega)
      ·have hk0:pz (tN b)=0:=by omega
       have hz0:mdZ b=true:=by unfold mdZ;rw [hk0];rfl
       rw [hz0,if_pos rfl] at hE0
       have m1:mdL b=(mlG [] (bd b)).1:=if_pos hE0
       have m2:mdN b=tN b:=by have:mdN b=tN b+pz (tN b):=if_pos hE0;omega
       rw [m1,m2,hE0]
       repeat'(intro t ht;first|(cases t<;>first|(cases ht;done)|(try simp only[zg_]at ht))|((first|refine zb_ ht ?_|refine ht ?_ ?_|refine ht.1 ?_ ?_|refine ht ?_)<;>clear ht))
       all_goals (try simp only [n1,n2,n3,n4,n5,n6,ht,k1,k2,k3,hg] at*)
       all_goals first
        | exact True.intro
        | contradiction
        | omega
        | ((try simp only [zm_,zn_,zl_] at*);omega)
        | exact ⟨by omega,by omega,by omega,by decide⟩
        | exact ⟨by omega,by omega,by omega⟩
        | exact ⟨rfl,by first | rfl | exact True.intro⟩
        | exact ⟨True.intro,True.intro⟩
        | (exfalso;omega)
     ·rw [if_pos hg] at hE0
      obtain ⟨m1,m2⟩:=vp_ hE0 hg
      rw [m1,m2,hE0]
      repeat'(intro t ht;first|(cases t<;>first|(cases ht;done)|(try simp only[zg_]at ht))|((first|refine zb_ ht ?_|refine ht ?_ ?_|refine ht.1 ?_ ?_|refine ht ?_)<;>clear ht))
      all_goals (try simp only [n1,n2,n3,n4,n5,n6,ht,k1,k2,k3] at*)
      all_goals first
       | exact True.intro
       | contradiction
       | omega
       | ((try simp only [zm_,zn_,zl_] at*);omega)
       | exact ⟨by omega,by omega,by omega,by decide⟩
       | exact ⟨by omega,by omega,by omega⟩
       | exact ⟨rfl,by first | rfl | exact True.intro⟩
       | exact ⟨True.intro,True.intro⟩
       | (exfalso;omega)
   ·have hE:mdE b=1025:=by unfold mdE;rw [if_neg h4,if_pos ht]
    obtain ⟨m1,m2⟩:=vp_ hE (by decide)
    rw [m1,m2,hE]
    repeat'(intro t ht;first|(cases t<;>first|(cases ht;done)|(try simp only[zg_]at ht))|((first|refine zb_ ht ?_|refine ht ?_ ?_|refine ht.1 ?_ ?_|refine ht ?_)<;>clear ht))
    all_goals (try simp only [n1,n2,n3,n4,n5,n6] at*)
    all_goals first
     | exact True.intro
     | contradiction
     | omega
     | ((try simp only [zm_,zn_,zl_] at*);omega)
     | exact ⟨by decide,by omega,by omega⟩
     | exact ⟨rfl,by first | rfl | exact True.intro⟩
     | exact ⟨True.intro,True.intro⟩
     | (exfalso;omega)
 ·cases e
def mtL (b:List Int) (p e:Int):List OV:=if e=0 then mdL (b.drop p.toNat) else []
def mtP (b:List Int) (p e:Int):Int:=if e=0 then p+mdN (b.drop p.toNat) else p
def mtE (b:List Int) (p e:Int):Int:=if e=0 then mdE (b.drop p.toNat) else e
theorem zeA_ (b:List Int) (hb:∀ x ∈ b,0<=x/\x<=255):0<=mdN b/\mdN b<=b.length:=by
 have hn2:0<=tN b/\tN b<=65535:=Ym_ (a:=2) hb
 have hz:=y8_ hn2.1
 unfold mdN;split
 ·rename_i h
  unfold mdE at h
  split at h
  ·cases h
  ·split at h
   ·cases h
   ·split at h
    ·cases h
    ·omega
 ·omega
def hv_:IR:=
(sq (kr [0] [oD 2 (.mov (.c (.imm Y1 [])))])
(sq (sq (.reg [oM 7 0,
oC 8 43 [7],
oB 9 .neq 8 (cI 0)])
(.cond 9
(sq (.reg [oD 2 (.mov (.c (.imm Y1 [])))])
.ret)
.skip))
(sq (.reg [oM 10 0,
oC 11 96 [10],
oM 3 11])
(sq (kr [0,3] [oM 13 3,
oC 14 97 [13],
oM 12 14,
oX 15 12 0,
oX 16 12 1,
oX 17 12 2,
oM 4 15,
oM 5 16,
oM 6 17])
(sq (kr [0,4,5,6] [oM 18 0,
oM 19 6,
oC 20 44 [18,19]])
(sq (.reg [oM 21 0,
oM 22 5,
oC 23 98 [21,22]])
(sq (.reg [oM 24 4,
oM 2 24])
.ret)))))))
def Gv_:List RD:=[.tmp 2 true (some Y1)]
theorem GZ_:zk_ Tryz.prog Tryz.f45 hv_ Gv_=true:=by kernel_rfl
def wQ_:List AV->List Obj->Option (Prop × AV × List Obj)
 | [.ptr 0 0],[.box [.imm (.int .u8) b,.int .i64 p,.int .i64 sh,.int .i64 od,.int .i64 e,.bool true]]=>some ((0<=p/\p<=b.length/\b.length<=100000000/\sh ≠ 0,.imm Y1 (mtL b p e),[.box [.imm (.int .u8) b,.int .i64 (mtP b p e),.int .i64 sh,.int .i64 od,.int .i64 (mtE b p e),.bool true]]))
 | _,_=>none
theorem uY_:zd_ Tryz.prog 45 (RwF wQ_).sum:=by
 refine qa_ Tryz.func45 GZ_ (za_ (s:=RoF zq_) zr_ (za_ (s:=RoF q2_) J2_ (za_ (s:=RoF jq_) YY_ (za_ (s:=RwF zs_) zx_ (za_ (s:=RwF zL_) zV_ (zc_ _)))))) fun args objs p v o e=>?_
 unfold wQ_ at e
 split at e
 ·rename_i b p sh od e
  cases e
  refine ⟨rfl,fun hw ho hp=>?_⟩
  change List Int at b
  have hb:∀ x ∈ (b:List Int),(0:Int)<=x/\x<=255:=fun x hx=>((ho _ (List.mem_cons_self ..)) (.imm (.int .u8) b) (by simp)).1 x hx
  clear hw ho
  obtain ⟨h1,h2,h3,h4⟩:=hp
  have hbd:∀ x ∈ b.drop p.toNat,(0:Int)<=x/\x<=255:=fun x hx=>hb x (List.mem_of_mem_drop hx)
  have hN:=zeA_ _ hbd
  have hl:(b.drop p.toNat).length=b.length - p.toNat:=List.length_drop
  by_cases he:e=0
  ·subst he
   have f0:∀ x,zy_ 0 x=x:=fun x=>if_pos rfl
   have hT:jD_ (mdN (b.drop p.toNat)) b p sh (mdE (b.drop p.toNat))=p+mdN (b.drop p.toNat)/\ZZ_ (mdN (b.drop p.toNat)) b p sh (mdE (b.drop p.toNat))=mdE (b.drop p.toNat):=by
    have hE:ZZ_ (mdN (b.drop p.toNat)) b p sh (mdE (b.drop p.toNat))=mdE (b.drop p.toNat):=by
     unfold ZZ_;rw [if_neg (by omega),if_neg (by omega)]
    refine ⟨?_,hE⟩
    unfold jD_;rw [hE]
    by_cases h0:mdE (b.drop p.toNat)=0
    ·rw [if_pos h0]
    ·rw [if_neg h0,(vp_ rfl h0).2];omega
   repeat'(intro t ht;first|(cases t<;>first|(cases ht;done)|(try simp only[zg_]at ht;try(exfalso;first|contradiction|omega)))|((first|refine zb_ ht ?_|refine ht ?_ ?_|refine ht.1 ?_ ?_|refine ht ?_)<;>clear ht))
   all_goals (try simp only [if_true,f0,hT] at*)
   all_goals first
    | exact True.intro
    | exact ⟨h1,h2,by omega,h4⟩
    | exact ⟨h1,h2,by omega⟩
    | omega
    | (unfold mtL mtP mtE;exact ⟨rfl,by first | rfl | exact True.intro⟩)
    | (exfalso;simp_all;done)
  ·repeat'(intro t ht;first|(cases t<;>first|(cases ht;done)|(try simp only[zg_]at ht;try(exfalso;first|contradiction|omega)))|((first|refine zb_ ht ?_|refine ht ?_ ?_|refine ht.1 ?_ ?_|refine ht ?_)<;>clear ht))
   all_goals first
    | exact True.intro
    | (unfold mtL mtP mtE;rw [if_neg he,if_neg he,if_neg he];exact ⟨rfl,by first | rfl | exact True.intro⟩)
    | (exfalso;simp_all;done)
 ·cases e
theorem zm2_ {b:List Int} (h4:¬ b.length < 4) (ht:tT b=1) (hr:¬ (tN b < 4\/65528 < tN b\/b.length < tN b+pz (tN b))):mdE b=if ¬ (mlG [] (bd b)).2=0 then (mlG [] (bd b)).2 else if mdZ b=true then 0 else 1026:=by
 unfold mdE;rw [if_neg h4,if_neg (not_not_intro ht),if_neg hr]
structure WrOk (room:Int) (f:List Int->Int->List Int × Int) (v:Option (List Int)):Prop where
 ok:∀ y,v=some y->∀ l:List Int,(l.length:Int)+y.length<=room->f l 0=(l++y,0)
 full:∀ y,v=some y->∀ l:List Int,(l.length:Int)<=room->¬ (l.length:Int)+y.length<=room->(f l 0).2 ≠ 0
 bad:v=none->∀ l:List Int,(f l 0).2 ≠ 0
 ne:∀ (l:List Int) (e:Int),e ≠ 0->(f l e).2 ≠ 0
def HJ_ (a b:Option (List Int)):Option (List Int):=match a,b with | some x,some y=>some (x++y) | _,_=>none
theorem WrOk.seq {room:Int} {f g:List Int->Int->List Int × Int} {v w:Option (List Int)} (hf:WrOk room f v) (hg:WrOk room g w):WrOk room (fun l e=>g (f l e).1 (f l e).2) (HJ_ v w):=by
 cases v with
 | none=>exact ⟨fun y h=>(by cases h),fun y h=>(by cases h),fun _ l=>hg.ne _ _ (hf.bad rfl l),fun l e h=>hg.ne _ _ (hf.ne l e h)⟩
 | some x=>
   cases w with
   | none=>
     refine ⟨fun y h=>(by cases h),fun y h=>(by cases h),fun _ l=>?_,fun l e h=>hg.ne _ _ (hf.ne l e h)⟩
     show (g (f l 0).1 (f l 0).2).2 ≠ 0
     by_cases h0:(f l 0).2=0
     ·rw [h0];exact hg.bad rfl _
     ·exact hg.ne _ _ h0
   | some z=>
     refine ⟨fun y h l hl=>?_,fun y h l h0 hl=>?_,fun h=>(by cases h),fun l e h=>hg.ne _ _ (hf.ne l e h)⟩
     ·cases h
      rw [List.length_append] at hl
      show g (f l 0).1 (f l 0).2=_
      rw [hf.ok x rfl l (by omega)]
      show g (l++x) 0=_
      rw [hg.ok z rfl _ (by rw [List.length_append];omega),List.append_assoc]
     ·cases h
      rw [List.length_append] at hl
      show (g (f l 0).1 (f l 0).2).2 ≠ 0
      by_cases c:(l.length:Int)+x.length<=room
      ·rw [hf.ok x rfl l c]
       exact hg.full z rfl _ (by rw [List.length_append];omega) (by rw [List.length_append];omega)
      ·exact hg.ne _ _ (hf.full x rfl l h0 c)
theorem WrOk.fin {room:Int} {f:List Int->Int->List Int × Int} {v:Option (List Int)} (h:WrOk room f v) (h0:0<=room):(∀ y,v=some y->(y.length:Int)<=room->f [] 0=(y,0))/\((∀ y,v=some y->room < (y.length:Int))->(f [] 0).2 ≠ 0):=by
 refine ⟨fun y e hl=>h.ok y e [] (by simpa using hl),fun hy=>?_⟩
 cases v with
 | none=>exact h.bad rfl []
 | some y=>have:=hy y rfl;exact h.full y rfl [] (by simpa using h0) (by simp;omega)
theorem uK_ (room:Int) (x:List Int):WrOk room (fun l e=>(kH_ x l room e,QT_ x l room e)) (some x):=
 ⟨fun y h l hl=>by cases h;obtain ⟨a,b⟩:=Qd_ (x:=x) (l:=l) (room:=room) (by omega);rw [a,b],fun y h l _ hl=>by cases h;exact xN_ (by omega),fun h=>(by cases h),fun l e h=>KM_ h⟩
def X1_ (w xs:List Int):Option (List Int):=if ZM_ w xs=true then some (zR_ w xs) else none
theorem zdn_ (room:Int) (w xs:List Int):WrOk room (fun l e=>(qr_ w xs l room e,qK_ w xs l room e)) (X1_ w xs):=by
 unfold X1_
 by_cases hk:ZM_ w xs=true
 ·have h:=uK_ room (zR_ w xs)
  rw [if_pos hk]
  unfold qr_ qK_
  simp only [if_pos hk]
  exact h
 ·rw [if_neg hk]
  unfold qr_ qK_
  simp only [if_neg hk]
  exact ⟨fun y h=>(by cases h),fun y h=>(by cases h),fun _ l=>by show (10001:Int) ≠ 0;decide,fun l e h=>QK_ h⟩
theorem bN_ {room:Int}:∀ (r:List OV) (l:List Int) (e:Int),e ≠ 0->(puS room r l e).2 ≠ 0
 | [],l,e,h=>h
 | o :: r,l,e,h=>by unfold puS;exact bN_ r _ _ (KM_ (QK_ h))
theorem zbu_ {room:Int}:∀ (r:List OV) (l:List Int),r.all rgO=true->(l.length:Int)<=room->¬ ((l.length:Int)+(boO r).length<=room)->(puS room r l 0).2 ≠ 0
 | [],l,_,h0,h1=>by exfalso;apply h1;show (l.length:Int)+0<=room;omega
 | o :: r,l,h,h0,h1=>by
   rw [List.all_cons,Bool.and_eq_true] at h
   obtain ⟨_,h2,h3,_⟩:=Xd_ h.1
   rw [show boO (o :: r)=ecO o++boO r from List.flatMap_cons,List.length_append] at h1
   have f0:zy_ 0 0=0:=rfl
   unfold puS
   rw [h2,h3,f0]
   by_cases hf:((ecO o).length:Int)<=room - l.length
   ·obtain ⟨b1,b2⟩:=Qd_ hf
    rw [b1,b2]
    exact zbu_ r _ h.2 (by rw [List.length_append];omega) (by rw [List.length_append];omega)
   ·exact bN_ _ _ _ (xN_ hf)
def matO (x:List OV):Option (List Int):=if rgM x=true then some (meB x) else none
theorem yP_ (room:Int) (x:List OV):WrOk room (fun l e=>(mpB x l room e,mpE x l room e)) (matO x):=by
 unfold matO
 cases hr:rgM x with
 | false=>
   rw [if_neg (by decide)]
   refine ⟨fun y h=>(by cases h),fun y h=>(by cases h),fun _ l=>?_,fun l e h=>?_⟩
   ·show mpE x l room 0 ≠ 0;rw [(ziA_ hr).2];decide
   ·show mpE x l room e ≠ 0;rw [(ziA_ hr).2];exact QK_ h
 | true=>
   rw [if_pos rfl]
   obtain ⟨p1,_,_,p4,p5⟩:=ky_ hr
   have hlen:=Bv_ x (by omega)
   refine ⟨fun y h l hl=>?_,fun y h l h0 hl=>?_,fun h=>(by cases h),fun l e h=>?_⟩
   ·cases h
    obtain ⟨a,b⟩:=zm1_ (l:=l) (room:=room) hr (by omega)
    show (mpB x l room 0,mpE x l room 0)=_;rw [a,b]
   ·cases h
    show mpE x l room 0 ≠ 0
    have hN:meN x=4+((boO x).length:Int):=rfl
    have hL:qk_ x=meN x:=(ky_ hr).2.2.1
    unfold mpE mpS
    rw [if_pos hr]
    by_cases c1:(4:Int)<=room - l.length
    ·have hk:ZM_ [2,2] [1,qk_ x]=true:=by
      rw [hL];exact (h0_ (a:=1) (n:=meN x) (by omega) (by omega)).2
     have hs:=K2_ hk
     rw [show zP_ [2,2]=4 by decide] at hs
     have r1:qr_ [2,2] [1,qk_ x] l room 0=l++zR_ [2,2] [1,qk_ x]/\qK_ [2,2] [1,qk_ x] l room 0=0:=by
      unfold qr_ qK_;rw [if_pos hk,if_pos hk];exact Qd_ (by omega)
     rw [r1.1,r1.2]
     by_cases c2:((l++zR_ [2,2] [1,qk_ x]).length:Int)+(boO x).length<=room
     ·rw [zd2_ x _ p1 c2]
      refine xN_ ?_
      unfold mpZ
      rw [List.length_replicate,hL,List.length_append,List.length_append]
      rw [List.length_append] at c2
      rw [hL] at hs
      have:=y8_ (n:=meN x) (by omega)
      omega
     ·exact KM_ (zbu_ x _ p1 (by rw [List.length_append];omega) c2)
    ·have hk:ZM_ [2,2] [1,qk_ x]=true:=by
      rw [hL];exact (h0_ (a:=1) (n:=meN x) (by omega) (by omega)).2
     have hs:=K2_ hk
     rw [show zP_ [2,2]=4 by decide] at hs
     refine KM_ (bN_ _ _ _ ?_)
     unfold qK_;rw [if_pos hk];exact xN_ (by omega)
   ·show mpE x l room e ≠ 0
    unfold mpE mpS;rw [if_pos hr]
    exact KM_ (bN_ _ _ _ (zkf_ h))
def actO (x:List AC):Option (List Int):=if rgL x=true then some (boA x) else none
theorem zj0_ (room:Int) (x:List AC):WrOk room (fun l e=>(apB x l room e,apE x l room e)) (actO x):=by
 unfold actO
 cases hr:rgL x with
 | false=>
   rw [if_neg (by decide)]
   refine ⟨fun y h=>(by cases h),fun y h=>(by cases h),fun _ l=>?_,fun l e h=>?_⟩
   ·show apE x l room 0 ≠ 0;rw [(zjF_ hr).2];decide
   ·show apE x l room e ≠ 0;rw [(zjF_ hr).2];exact QK_ h
 | true=>
   rw [if_pos rfl]
   refine ⟨fun y h l hl=>?_,fun y h l h0 hl=>?_,fun h=>(by cases h),fun l e h=>zmz_ h⟩
   ·cases h
    obtain ⟨a,b⟩:=znm_ (l:=l) hr hl
    show (apB x l room 0,apE x l room 0)=_;rw [a,b]
   ·cases h
    show apE x l room 0 ≠ 0
    unfold apE;rw [if_pos hr]
    exact zaG_ _ _ (q9_ hr).1 h0 hl
theorem Y5_ {w n y:List Int} (h:X1_ w n=some y):ZM_ w n=true/\zR_ w n=y:=by
 unfold X1_ at h;split at h
 ·cases h;exact ⟨by assumption,rfl⟩
 ·cases h
theorem Jk_ {a b:Option (List Int)} {y:List Int} (h:HJ_ a b=some y):∃ p q,a=some p/\b=some q/\y=p++q:=by
 cases a with
 | none=>cases h
 | some p=>cases b with
   | none=>cases h
   | some q=>cases h;exact ⟨p,q,rfl,rfl,rfl⟩
theorem zfC_ {a b:List Int}:HJ_ (some a) (some b)=some (a++b):=rfl
theorem zhI_ {a:List AC} {y:List Int} (h:actO a=some y):rgL a=true/\boA a=y:=by
 unfold actO at h;split at h
 ·cases h;exact ⟨by assumption,rfl⟩
 ·cases h
theorem zk2_ {x:List AC} {l:List Int} {room e:Int} (h:l.length<=1000000) (hr:room<=1000000):(apB x l room e).length<=1000000:=by
 unfold apB;split
 ·exact zfB_ hr _ _ _ h
 ·exact h
def qy_ (m:VMs):Bool:=decide (m.2.2.1.length=0) && decide (m.2.2.2.1.length=0) && decide (m.2.2.2.2.1.length=0) && decide (m.2.2.2.2.2.1.length=0) && decide (m.2.2.2.2.2.2.1.length=0) && decide (m.2.2.2.2.2.2.2.1.length=0) && decide (m.2.2.2.2.2.2.2.2.1.length=0) && decide (m.2.2.2.2.2.2.2.2.2.1.length=0) && decide (m.2.2.2.2.2.2.2.2.2.2.1.length=0) && decide (m.2.2.2.2.2.2.2.2.2.2.2.1.length=0) && decide (m.2.2.2.2.2.2.2.2.2.2.2.2.1=0) && decide (m.2.2.2.2.2.2.2.2.2.2.2.2.2.1=0) && decide (m.2.2.2.2.2.2.2.2.2.2.2.2.2.2.1.length=0)
theorem zgD_ {m:VMs}:qy_ m=true ↔ m=(m.1,m.2.1,[],[],[],[],[],[],[],[],[],[],0,0,[],()):=by
 obtain ⟨a0,a1,a2,a3,a4,a5,a6,a7,a8,a9,a10,a11,a12,a13,a14,_⟩:=m
 unfold qy_
 simp only [Bool.and_eq_true,decide_eq_true_eq,List.length_eq_zero_iff,Prod.mk.injEq,true_and,and_true,and_assoc]
abbrev mT (m:VMs):=m.1
abbrev mN (m:VMs):=m.2.2.1
abbrev mX (m:VMs):=m.2.2.2.2.2.1
theorem zc2_ (pre:List OV) (o:OV) (r:List OV):ckS pre (o :: r)=if pre.any (fun x=>alO x o)=true then (((pre.length:Nat):Int),1035) else if wo_ pre o.1 o.2.1=true then ckS (pre++[o]) r else (((pre.length:Nat):Int),1034):=rfl
theorem zkU_ (pre:List OV):ckS pre []=(0,0):=rfl
theorem zgx_:∀ (r pre s:List OV),ckS pre (r++s)=if (ckS pre r).2=0 then ckS (pre++r) s else ckS pre r
 | [],pre,s=>by
   rw [List.nil_append,List.append_nil,zkU_,if_pos rfl]
 | o :: r,pre,s=>by
   rw [List.cons_append,zc2_,zc2_ pre o r]
   by_cases h1:pre.any (fun x=>alO x o)=true
   ·simp only [if_pos h1];rw [if_neg (by decide)]
   ·simp only [if_neg h1]
    by_cases h2:wo_ pre o.1 o.2.1=true
    ·simp only [if_pos h2]
     rw [zgx_ r (pre++[o]) s,List.append_assoc,List.singleton_append]
    ·simp only [if_neg h2];rw [if_neg (by decide)]
theorem zkT_ {r s:List OV} (h:(ckS [] (r++s)).2=0):(ckS [] r).2=0:=by
 rw [zgx_] at h
 by_cases h1:(ckS [] r).2=0
 ·exact h1
 ·rw [if_neg h1] at h;exact h
theorem zky_ {acc:List OV} {y:List Int} (h:¬ y.length=0) (h1:zO_ y=0) (h2:(ckS [] (acc++[vO y])).2=0) (hn:1<=Zy_ y):mlG acc y=mlG (acc++[vO y]) (y.drop (Zy_ y).toNat):=by
 rw [mlG,if_neg h,if_neg (not_not_intro h1),if_neg (not_not_intro h2),show max 1 (Zy_ y).toNat=(Zy_ y).toNat by omega]
theorem zjj_ (o:OV):4<=(ecO o).length:=by
 have:=zj_ (n:=o.1) (w:=2) (by decide)
 unfold ecO Zx_;simp only [List.length_append,List.length_cons];omega
theorem zda_ (o:OV) (r:List OV):boO (o :: r)=ecO o++boO r:=List.flatMap_cons
theorem zf5_:∀ (r acc:List OV),r.all rgO=true->(∀ o ∈ r,0<=o.2.2.2.1)->(ckS [] (acc++r)).2=0->mlG acc (boO r)=(acc++r,0)
 | [],acc,_,_,_=>by rw [Bs_ (by rfl),List.append_nil]
 | o :: r,acc,h,hx,hc=>by
   rw [List.all_cons,Bool.and_eq_true] at h
   have hr:zG_ o.1 o.2.1 o.2.2.1 o.2.2.2.1 o.2.2.2.2.1 o.2.2.2.2.2.1=true:=h.1
   obtain ⟨D1,D2,D3,D4,D5,D6,D7,D8⟩:=zgs_ (b:=boO r) hr (hx o (List.mem_cons_self ..))
   have hge:=zjj_ o
   have hv:vO (ecO o++boO r)=o:=by
    unfold vO ecO;rw [D2,D3,D4,D5,D6,D7]
   have hE:zO_ (ecO o++boO r)=0:=D1
   have hN:Zy_ (ecO o++boO r)=(ecO o).length:=D8
   have ha:acc++o :: r=(acc++[o])++r:=by rw [List.append_assoc];rfl
   have hc1:(ckS [] (acc++[o])).2=0:=by rw [ha] at hc;exact zkT_ hc
   rw [zda_,zky_ (by rw [List.length_append];omega) hE (by rw [hv];exact hc1) (by rw [hN];omega),hv,hN,Int.toNat_natCast,List.drop_left]
   rw [zf5_ r (acc++[o]) h.2 (fun o ho=>hx o (List.mem_cons_of_mem _ ho)) (by rw [<- ha];exact hc),<- ha]
theorem zjz_:∀ (l:List OV),4*l.length<=(boO l).length
 | []=>Nat.zero_le _
 | o :: r=>by
   have:=zjz_ r
   have:=zjj_ o
   rw [zda_,List.length_append,List.length_cons];omega
theorem zmO_ {l:List OV} (h:rgM l=true):okM l:=by
 obtain ⟨h1,h2,h3,h4,h5⟩:=ky_ h
 refine ⟨⟨fun o ho=>?_⟩,?_⟩
 ·have:=Ub_ (List.all_eq_true.1 h1 o ho)
  exact ⟨by omega,by omega⟩
 ·have:=zjz_ l
  have:meN l=4+(boO l).length:=rfl
  omega
theorem zkB_ {N:Int} {body rest:List Int} (hN:N=4+body.length) (hN2:N<=65535):
 tT (ze_ 1 2++ze_ N 2++body++rest)=1/\tN (ze_ 1 2++ze_ N 2++body++rest)=N/\bd (ze_ 1 2++ze_ N 2++body++rest)=body/\(ze_ 1 2++ze_ N 2++body++rest).drop N.toNat=rest/\(ze_ 1 2++ze_ N 2++body++rest).length=4+body.length+rest.length:=by
 have l2:(ze_ 1 2).length=2:=by have:=zj_ (n:=1) (w:=2) (by decide);omega
 have l3:(ze_ N 2).length=2:=by have:=zj_ (n:=N) (w:=2) (by decide);omega
 have e1:tT (ze_ 1 2++ze_ N 2++body++rest)=1:=by
  unfold tT;rw [List.append_assoc,List.append_assoc,List.take_left' l2];exact num2 (by decide)
 have e2:tN (ze_ 1 2++ze_ N 2++body++rest)=N:=by
  unfold tN;rw [List.append_assoc,List.append_assoc,List.drop_left' l2,List.take_left' l3];exact num2 (by omega)
 have hl:(ze_ 1 2++ze_ N 2++body++rest).length=4+body.length+rest.length:=by simp only [List.length_append];omega
 refine ⟨e1,e2,?_,?_,hl⟩
 ·unfold bd
  rw [e2,List.take_left' (by simp only [List.length_append];omega)]
  exact List.drop_left' (by rw [List.length_append];omega)
 ·exact List.drop_left' (by simp only [List.length_append];omega)
theorem zl7_ {l:List OV} {b:List Int} (h:rgM l=true) (hx:∀ o ∈ l,0<=o.2.2.2.1):mdE (meB l++b)=0/\mdL (meB l++b)=l/\mdN (meB l++b)=(meB l).length:=by
 obtain ⟨h1,h2,h3,h4,h5⟩:=ky_ h
 have hz:=y8_ (n:=meN l) (by omega)
 have hml:=Bv_ l (by omega)
 have e:meB l++b=ze_ 1 2++ze_ (meN l) 2++boO l++(List.replicate (pz (meN l)).toNat 0++b):=by unfold meB;simp only [List.append_assoc]
 obtain ⟨t1,t2,t3,t4,t5⟩:=zkB_ (N:=meN l) (body:=boO l) (rest:=List.replicate (pz (meN l)).toNat 0++b) rfl (by omega)
 rw [<- e] at t1 t2 t3 t4 t5
 have hN:meN l=4+(boO l).length:=rfl
 simp only [List.length_append,List.length_replicate] at t5
 have hm:=zf5_ l [] h1 hx h2
 rw [List.nil_append] at hm
 have hZ:mdZ (meB l++b)=true:=by
  unfold mdZ;rw [t2,t4,List.take_left' List.length_replicate];exact YV_ _
 have hE:mdE (meB l++b)=0:=by
  rw [zm2_ (by rw [List.length_append];omega) t1 (by rw [t2,List.length_append];omega),t3,hm,hZ];rfl
 refine ⟨hE,?_,?_⟩
 ·unfold mdL;rw [if_pos hE,t3,hm]
 ·unfold mdN;rw [if_pos hE,t2];omega
def n8 (q:P8):List Int:=[q.1,q.2.1,q.2.2.1,q.2.2.2.1,q.2.2.2.2.1,q.2.2.2.2.2.1,q.2.2.2.2.2.2.1,q.2.2.2.2.2.2.2.1]
def BG_:IR:=
(sq (kr [0,1] [oD 4 (.nilrow (.int .u64)),
oD 5 (.mov (cI 0))])
(sq (sq (.reg [oM 10 0,
oC 11 113 [10],
oD 12 (.un .not 11)])
(.cond 12
(sq (.reg [oD 4 (.nilrow (.int .u64)),
oD 5 (.mov (cI 2))])
.ret)
.skip))
(sq (kr [0,1] [oD 6 (.nilrow (.int .u64))])
(sq (sq (.reg [oM 13 0,
oE 14 13,
oD 15 (.mov (cI 0))])
(.block 0
(.loop
(sq (kr [1,6,13,14,15] [oB 16 .lss 15 14])
(sq (.cond 16
.skip
(.exit 0))
(sq (.block 1
(sq (.reg [oI 17 1 13 15,
oL 18 17,
oM 8 18])
(sq (kr [1,6,8,13,14,15] [oM 19 8,
oM 20 8,
oD 21 (.un .neg 20),
oD 22 (.minmax true 19 21),
oM 9 22])
(sq (.block 2
(sq (kr [1,6,8,9,13,14,15] [oM 24 1,
oE 25 24,
oM 26 9,
oB 27 .lss 25 26,
oM 23 27])
(.cond 23
(sq (.reg [oD 4 (.nilrow (.int .u64)),
oD 5 (.mov (cI 1))])
.ret)
(sq (.reg [oM 29 8,
oB 30 .gtr 29 (cI 0),
oM 28 30])
(.cond 28
(kr [1,6,9,13,14,15] [oM 31 6,
oM 32 1,
oM 33 9,
oD 34 (.slice 1 32 none (some 33) none),
oC 35 129 [34],
oD 36 (.sliceAll (.int .u64) 1 [(0,1,35)]),
oD 37 (.append (.int .u64) 8 31 36),
oM 6 37])
(sq (kr [1,6,9,13,14,15] [oM 39 1,
oM 40 9,
oD 41 (.slice 1 39 none (some 40) none),
oC 42 130 [41],
oD 43 (.un .not 42),
oM 38 43])
(.cond 38
(sq (kr [] [oD 4 (.nilrow (.int .u64)),
oD 5 (.mov (cI 2))])
.ret)
.skip)))))))
(kr [1,6,9,13,14,15] [oM 44 1,
oM 45 9,
oD 46 (.slice 1 44 (some 45) none none),
oM 1 46])))))
(kr [1,6,13,14,15] [oB 47 .add 15 (cI 1),
oM 15 47])))))))
(sq (kr [6] [oM 48 6,
oM 4 48,
oD 5 (.mov (cI 0))])
.ret)))))
def bg_:List RD:=[.tmp 4 false none,.tmp 5 false none]
theorem bT_:zk_ Tryz.prog Tryz.f93 BG_ bg_=true:=by kernel_rfl
def xS_:List AV->List Obj->Option (Prop × AV × List Obj)
 | [.imm (.int .i64) w,.imm (.int .u8) b],[]=>some ((True,.tup [.own 0,.int .i64 (z7_ w b)],[.row false (.int .u64) (Zq_ w b)]))
 | _,_=>none
theorem gZ_:zd_ Tryz.prog 93 (RwF xS_).sum:=by
 refine qa_ Tryz.func93 bT_ (za_ (s:=RoF qW_) Qq_ (za_ (s:=RoF KN_) WW_ (za_ (s:=RoF wG_) yU_ (zc_ _)))) fun args objs p v o e=>?_
 unfold xS_ at e
 split at e
 ·rename_i w b
  cases e
  refine ⟨rfl,fun hw ho hp=>?_⟩
  change List Int at w
  change List Int at b
  have hb:b.length<=maxLen:=(hw (.imm (.int .u8) b) (by simp)).2
  unfold maxLen at hb
  repeat'(intro t ht;first|(cases t<;>first|(cases ht;done)|(try simp only[zg_]at ht))|((first|refine zb_ ht ?_|refine ht ?_ ?_|refine ht.1 ?_ ?_|refine ht ?_)<;>clear ht))
  all_goals first
   | exact True.intro
   | (intro r h1 h2;clear h1;refine h2 ⟨[1,6,13,14,15],Nat × List Int × List Int,(fun a=>a.1<=w.length/\a.2.1.length<=b.length/\a.2.2.length<=a.1/\ZG_ w b []=ZG_ (w.drop a.1) a.2.1 a.2.2),fun a=>[.imm (.int .u8) a.2.1,.own 0,.imm (.int .i64) w,.int .i64 w.length,.int .i64 a.1],fun a=>[.row false (.int .u64) a.2.2],fun a=>w.length - a.1,⟨(0,b,[]),⟨Nat.zero_le _,Nat.le_refl _,Nat.zero_le _,rfl⟩,rfl,rfl⟩,?_⟩;clear h2)
   | (have hr:z3_ w=false:=by assumption
      have hf:ZX_ w b=([],2):=by unfold ZX_;rw [hr];rfl
      unfold Zq_ z7_;rw [hf];exact ⟨rfl,rfl⟩)
  rintro ⟨i,c,o⟩ ⟨hi,hc,ho,he⟩
  dsimp only at hi hc ho he
  have hr:z3_ w=true:=by assumption
  have hl:=(Zk_.1 hr).1
  repeat'(intro t ht;first|(cases t<;>first|(cases ht;done)|(try simp only[zg_]at ht))|((first|refine zb_ ht ?_|refine ht ?_ ?_|refine ht.1 ?_ ?_|refine ht ?_)<;>clear ht))
  all_goals first
   | ((try simp only [zm_,zn_,zl_] at*);omega)
   | (have hge:w.length<=i:=by omega
      rw [List.drop_of_length_le hge] at he
      have hf:ZX_ w b=(o,0):=by unfold ZX_;rw [if_pos hr,he];rfl
      unfold Zq_ z7_;rw [hf];exact ⟨rfl,rfl⟩)
   | skip
  all_goals have hlt:i < w.length:=by omega
  all_goals have hkk:=(Zk_.1 hr).2 _ (zu_ (α:=Int) hlt 0)
  all_goals have ha:=wF_ (n:=w.getD i 0)
  all_goals have hA:(if 0 - w.getD i 0 > w.getD i 0 then 0 - w.getD i 0 else w.getD i 0)=zt_ (w.getD i 0):=rfl
  all_goals first
   | exact True.intro
   | ((try simp only [zm_,zn_,zl_] at*);omega)
   | (have h1:(c.length:Int) < zt_ (w.getD i 0):=by assumption
      have hf:ZX_ w b=([],1):=by unfold ZX_;rw [if_pos hr,he];exact gr_ hlt h1
      unfold Zq_ z7_;rw [hf];exact ⟨rfl,rfl⟩)
   | (have h1:¬ (c.length:Int) < zt_ (w.getD i 0):=by assumption
      first
       | (have h2:¬ 0 < w.getD i 0:=by assumption
          first
           | (have h3:Zo_ (c.take (zt_ (w.getD i 0)).toNat)=true:=by assumption
              refine ⟨(i+1,c.drop (zt_ (w.getD i 0)).toNat,o),⟨hlt,?_,by dsimp only;omega,?_⟩,by dsimp only;omega,rfl,rfl⟩
              ·dsimp only;rw [List.length_drop];omega
              ·rw [he];exact Hg_ hlt h1 h2 h3)
           | (have h3:Zo_ (c.take (zt_ (w.getD i 0)).toNat)=false:=by assumption
              have hf:ZX_ w b=([],2):=by unfold ZX_;rw [if_pos hr,he];exact zcE_ hlt h1 h2 h3
              unfold Zq_ z7_;rw [hf];exact ⟨rfl,rfl⟩))
       | (have h2:0 < w.getD i 0:=by assumption
          first
           | (show (c.take (zt_ (w.getD i 0)).toNat).length<=8;rw [List.length_take];omega)
           | (simp only [zN_,List.length_append,List.length_cons,List.length_nil];omega)
           | (refine ⟨(i+1,c.drop (zt_ (w.getD i 0)).toNat,o++[Zz_ (c.take (zt_ (w.getD i 0)).toNat)]),⟨hlt,?_,?_,?_⟩,by dsimp only;omega,rfl,rfl⟩
              ·dsimp only;rw [List.length_drop];omega
              ·simp only [List.length_append,List.length_cons,List.length_nil];omega
              ·rw [he];exact zcF_ hlt h1 h2)))
 ·cases e
def ww_:IR:=
(sq (kr [0,1] [oD 4 (.nilrow (.int .u64))])
(sq (sq (.reg [oM 7 0,
oC 8 43 [7],
oB 9 .neq 8 (cI 0)])
(.cond 9
(sq (.reg [oD 4 (.nilrow (.int .u64))])
.ret)
.skip))
(sq (kd [0,1] [(oM 11 1,[]),
(oM 12 0,[0]),
(oD 13 (.nilck 12),[1]),
(oA 14 0 13,[2]),
(oL 15 14,[3]),
(oM 16 0,[0,0,0,0,0]),
(oD 17 (.nilck 16),[1,0,0,0,0]),
(oA 18 1 17,[2,0,0,0,0]),
(oL 19 18,[3,0,0,0,0]),
(oD 20 (.slice 1 15 (some 19) none none),[8]),
(oC 21 93 [11,20],[]),
(oM 10 21,[]),
(oX 22 10 0,[]),
(oX 23 10 1,[0]),
(oM 5 22,[0]),
(oM 6 23,[])])
(sq (sq (kr [0,1,5,6] [oM 24 6])
(.block 0
(sq (.reg [oB 35 .eql 24 (cI 1),
oM 34 35])
(.cond 34
(kr [0,5] [oM 36 0,
oM 37 0,
oD 38 (.nilck 37),
oA 39 2 38,
oL 40 39,
oC 41 44 [36,40]])
(sq (.reg [oB 43 .eql 24 (cI 2),
oM 42 43])
(.cond 42
(kr [0,5] [oM 44 0,
oM 45 0,
oD 46 (.nilck 45),
oA 47 3 46,
oL 48 47,
oC 49 44 [44,48]])
(kd [0,1,5] [(oM 25 0,[]),
(oD 26 (.nilck 25),[]),
(oA 27 1 26,[]),
(oL 28 27,[]),
(oM 29 1,[0,0,0,0]),
(oC 30 94 [29],[1,0,0,0]),
(oB 31 .add 28 30,[]),
(oD 32 (.nilck 25),[]),
(oA 33 1 32,[]),
(oS 1 33 31,[])])))))))
(sq (kr [5] [oM 50 5,
oM 4 50])
.ret)))))
def wc_:List RD:=[.tmp 4 false none]
theorem wk_:zk_ Tryz.prog Tryz.f42 ww_ wc_=true:=by kernel_rfl
def ZV_:List AV->List Obj->Option (Prop × AV × List Obj)
 | [.ptr 0 0,.imm (.int .i64) w],[.box [.imm (.int .u8) b,.int .i64 p,.int .i64 sh,.int .i64 od,.int .i64 e,.bool true]]=>some ((0<=p/\p<=b.length/\b.length<=140737488355328,.own 1,[.box [.imm (.int .u8) b,.int .i64 (kC_ w b p e),.int .i64 sh,.int .i64 od,.int .i64 (Ki_ w b p sh od e),.bool true],.row false (.int .u64) (kk_ w b p e)]))
 | _,_=>none
theorem QH_:zd_ Tryz.prog 42 (RwF ZV_).sum:=by
 refine qa_ Tryz.func42 wk_ (za_ (s:=RoF zq_) zr_ (za_ (s:=RwF xS_) gZ_ (za_ (s:=RwF zs_) zx_ (za_ (s:=RoF QG_) QX_ (zc_ _))))) fun args objs p v o e=>?_
 unfold ZV_ at e
 split at e
 ·rename_i w b p sh od e
  cases e
  refine ⟨rfl,fun hw ho hp=>?_⟩
  change List Int at w
  change List Int at b
  have hz:=W8_ w
  repeat'(intro t ht;first|(cases t<;>first|(cases ht;done)|(try simp only[zg_]at ht))|((first|refine zb_ ht ?_|refine ht ?_ ?_|refine ht.1 ?_ ?_|refine ht ?_)<;>clear ht))
  all_goals first
   | exact True.intro
   | ((try simp only [zm_,zn_,zl_] at*);omega)
   | (refine ⟨rfl,?_⟩;unfold kk_ kC_ Ki_;simp_all [zy_];done)
 ·cases e
theorem gs_:∀ (w b o:List Int),(ZG_ w b o).1.length<=o.length+w.length
 | [],b,o=>by simp [ZG_]
 | n :: r,b,o=>by
   simp only [ZG_]
   split
   ·simp
   ·split
    ·have ih:=gs_ r (b.drop (zt_ n).toNat) (o++[Zz_ (b.take (zt_ n).toNat)])
     simp only [List.length_append,List.length_cons,List.length_nil] at ih ⊢;omega
    ·split
     ·have ih:=gs_ r (b.drop (zt_ n).toNat) o
      simp only [List.length_cons];omega
     ·simp
theorem zkS_ (w b:List Int) (p e:Int):(kk_ w b p e).length<=w.length:=by
 unfold kk_ Zq_ ZX_
 split
 ·split
  ·have:=gs_ w (b.drop p.toNat) [];simpa using this
  ·simp
 ·simp
theorem gt_:∀ (w b o:List Int),((ZG_ w b o).2=0\/(ZG_ w b o).2=1\/(ZG_ w b o).2=2)/\((ZG_ w b o).2=0->(w.map zt_).sum<=b.length)
 | [],b,o=>⟨.inl rfl,fun _=>by simp⟩
 | n :: r,b,o=>by
   have ha:=wF_ (n:=n)
   have hd:(b.drop (zt_ n).toNat).length=b.length - (zt_ n).toNat:=List.length_drop
   simp only [ZG_]
   rw [List.map_cons,List.sum_cons]
   split
   ·exact ⟨.inr (.inl rfl),fun h=>by cases h⟩
   ·split
    ·have ih:=gt_ r (b.drop (zt_ n).toNat) (o++[Zz_ (b.take (zt_ n).toNat)])
     exact ⟨ih.1,fun h=>by have:=ih.2 h;omega⟩
    ·split
     ·have ih:=gt_ r (b.drop (zt_ n).toNat) o
      exact ⟨ih.1,fun h=>by have:=ih.2 h;omega⟩
     ·exact ⟨.inr (.inr rfl),fun h=>by cases h⟩
theorem zi8_ (w b:List Int):(z7_ w b=0\/z7_ w b=1\/z7_ w b=2)/\(z7_ w b=0->zP_ w<=b.length):=by
 unfold z7_ ZX_ zP_
 split
 ·exact gt_ w b []
 ·exact ⟨.inr (.inr rfl),fun h=>by cases h⟩
theorem zkR_ {w b:List Int} {p e:Int} (h0:0<=p) (h1:p<=b.length):0<=kC_ w b p e/\kC_ w b p e<=b.length:=by
 have hk:=zi8_ w (b.drop p.toNat)
 have hz:=W8_ w
 have hd:(b.drop p.toNat).length=b.length - p.toNat:=List.length_drop
 unfold kC_
 by_cases he:e=0
 ·rw [if_pos he]
  by_cases h2:z7_ w (b.drop p.toNat)=1
  ·rw [if_pos h2];exact ⟨h0,h1⟩
  ·rw [if_neg h2]
   by_cases h3:z7_ w (b.drop p.toNat)=2
   ·rw [if_pos h3];exact ⟨h0,h1⟩
   ·rw [if_neg h3]
    have:=hk.2 (by omega)
    omega
 ·rw [if_neg he];exact ⟨h0,h1⟩
end Go.Eng
